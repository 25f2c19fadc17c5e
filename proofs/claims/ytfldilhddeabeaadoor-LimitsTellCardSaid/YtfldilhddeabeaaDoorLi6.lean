/- LimitsTell. No condition beyond those that each theorem says. -/
import Derived.Test.YtfldilhddeabeaaDoorLi5
import Derived.Test.YtfldilhddeabeaaDoorNuT
import Derived.Test.YtfldilhddeabeaaDoorLibW
namespace Go.Proofs.YtfldilhddeabeaaDoor
open Go Go.Gm
set_option linter.unusedVariables false
set_option linter.unusedSimpArgs false
set_option maxHeartbeats 4000000
set_option maxRecDepth 8000


theorem tx_most {l : LimD} {t : TxD} (h : RightQ l) (k : txR l t = 0) : txR mostL t = 0 := by
  obtain ⟨_, h1, _⟩ := h
  unfold txR at k ⊢
  split at k
  · cases k
  · rw [if_neg (by show ¬ (4095 : Int) < _; omega)]
theorem tx_mono {l m : LimD} {t : TxD} (h : l.ops ≤ m.ops) (k : txR l t = 0) : txR m t = 0 := by
  unfold txR at k ⊢
  split at k
  · cases k
  · rw [if_neg (by omega)]
theorem fits_mono {l m : LimD} {u : HistD} (h : l.txs ≤ m.txs) (h2 : l.room ≤ m.room) (k : fitsR l u = 0) : fitsR m u = 0 := by
  unfold fitsR at k ⊢
  split at k
  · cases k
  · rw [if_neg (by omega)]
theorem fits_most {l : LimD} {u : HistD} (h : RightQ l) (k : fitsR l u = 0) : fitsR mostL u = 0 := by
  obtain ⟨h0, _, h2, _⟩ := h
  exact fits_mono (l := l) (m := mostL) h0.2 h2.2 k

theorem tx0_le : PVsLe [.int .i64 0, .bool false, .is (.slice none 0 0)] (rTx ⟨0, false, []⟩) := ⟨.refl, .refl, .nilSl, trivial⟩
theorem h1_le : PVsLe [.arr 1 [.int .i64 0, .bool false, .is (.slice none 0 0)], .is (.slice none 0 0)] [.sl rTx [(⟨0, false, []⟩ : TxD)], .sl rOrd []] := ⟨PVLe.arrSl (R := rTx) (l' := [(⟨0, false, []⟩ : TxD)]) rfl ⟨.refl, .refl, .nilSl, trivial⟩, .nilSl, trivial⟩
theorem op0_pvs (w : World) (yy : Ys) : PVs (rOp ⟨false, 0, 0, 0⟩) [.bool false, .int .i64 0, .int .i64 0, .int .i64 0] w yy := ⟨⟨rfl, rfl⟩, ⟨rfl, rfl, by simp [inR, IntKind.min, IntKind.max, IntKind.signed, IntKind.bits]⟩, ⟨rfl, rfl, by simp [inR, IntKind.min, IntKind.max, IntKind.signed, IntKind.bits]⟩, ⟨rfl, rfl, by simp [inR, IntKind.min, IntKind.max, IntKind.signed, IntKind.bits]⟩, trivial⟩

theorem limLives_c  : FnP Tryd.prog 18 [] (.bool true) := by
  refine FnP.mk Tryd.func18 rfl Tryd.ntmps18 rfl ?_
  intro B a w F hB hfr hS
  refine wp_seq ?_
  refine region_seq hS (by kernel_rfl)
      (Chain.cons (Cert.free rfl (o_assign .cb (by rfl))) trivial trivial
      Chain.nil)
      (by kernel_rfl) (by rw [hB]; kernel_rfl) ?_
  clear hS; intro a w F hS
  replace hS := hS.norm [(0, _)] [(0, _)] ⟨rfl, trivial⟩ ⟨rfl, trivial⟩
  obtain ⟨F, hS⟩ := hS
  try dsimp only [RS.sub, SF.sub, CF.sub, csub, Anc.sub, stCells, List.map, List.length_cons, List.length_nil, Nat.reduceAdd, List.drop_succ_cons, List.drop_zero, List.drop_nil, List.take_succ_cons, List.take_zero, List.take_nil, List.cons_append, List.nil_append, zCF, ldSF] at hS
  refine then_n ?_
  refine wp_seq ?_
  refine region_seq hS (by kernel_rfl)
      (Chain.cons (Cert.free rfl (o_build (r := [(0, _), (1, _), (2, _), (3, _), (4, _)]) (zs := [.int .i64 0, .int .i64 0, .int .i64 0, .int .i64 0, .int .i64 0]) (pl := [(0, 1), (1, 1), (2, 1), (3, 1), (4, 1)]) (by kernel_rfl) (by kernel_rfl) (.one rfl (.ci (by kernel_rfl)) one_int (by kernel_rfl) (.one rfl (.ci (by kernel_rfl)) one_int (by kernel_rfl) (.one rfl (.ci (by kernel_rfl)) one_int (by kernel_rfl) (.one rfl (.ci (by kernel_rfl)) one_int (by kernel_rfl) (.one rfl (.ci (by kernel_rfl)) one_int (by kernel_rfl) .nil))))) (by rfl))) trivial trivial
      (Chain.cons (Cert.free rfl (o_alloc (zs := [.int .i64 0, .int .i64 0, .int .i64 0, .int .i64 0, .int .i64 0]) 101 (by kernel_rfl))) trivial trivial
      (Chain.cons (Cert.free rfl (o_storeA (sz := 5) 101 .same .t (by kernel_rfl) (by kernel_rfl) (by kernel_rfl))) ⟨rfl, rfl, trivial⟩ ⟨rfl, trivial⟩
      Chain.nil)))
      (by kernel_rfl) (by rw [hB]; kernel_rfl) ?_
  clear hS; intro a w F hS
  replace hS := hS.sub
  replace hS := hS.norm [(0, _), (1, _)] [(0, _), (101, _)] ⟨rfl, rfl, trivial⟩ ⟨rfl, rfl, trivial⟩
  obtain ⟨F, hS⟩ := hS
  try dsimp only [RS.sub, SF.sub, CF.sub, csub, Anc.sub, stCells, List.map, List.length_cons, List.length_nil, Nat.reduceAdd, List.drop_succ_cons, List.drop_zero, List.drop_nil, List.take_succ_cons, List.take_zero, List.take_nil, List.cons_append, List.nil_append, zCF, ldSF] at hS
  generalize Act.tau a 1 = v1 at hS
  refine then_n ?_
  refine wp_seq ?_
  refine region_seq hS (by kernel_rfl)
      (Chain.cons (Cert.free rfl (o_callP (limRead_c _ (by decide)) Tryd.func19 rfl (by kernel_rfl) (Args.one (.cs (by kernel_rfl))))) trivial trivial
      (Chain.cons (Cert.free rfl (o_move .t (by rfl))) ⟨rfl, trivial⟩ trivial
      (Chain.cons (Cert.free rfl (o_extract .t rfl)) ⟨rfl, trivial⟩ trivial
      (Chain.cons (Cert.free rfl (o_extract .t rfl)) ⟨rfl, trivial⟩ trivial
      (Chain.cons (Cert.free rfl (o_alloc (zs := [.int .i64 0, .int .i64 0, .int .i64 0, .int .i64 0, .int .i64 0]) 102 (by kernel_rfl))) trivial trivial
      (Chain.cons (Cert.free rfl (o_storeA (sz := 5) 102 .same (.conv .t .agg) (by kernel_rfl) (by kernel_rfl) (by kernel_rfl))) ⟨rfl, rfl, trivial⟩ ⟨rfl, trivial⟩
      (Chain.cons (Cert.free rfl (o_assign .t (by rfl))) ⟨rfl, trivial⟩ trivial
      Chain.nil)))))))
      (by kernel_rfl) (by rw [hB]; kernel_rfl) ?_
  clear hS; intro a w F hS
  replace hS := hS.sub
  replace hS := hS.norm [(0, _), (1, _), (2, _), (3, _)] [(0, _), (101, _), (102, _)] ⟨rfl, rfl, rfl, rfl, trivial⟩ ⟨rfl, rfl, rfl, trivial⟩
  obtain ⟨F, hS⟩ := hS
  try dsimp only [RS.sub, SF.sub, CF.sub, csub, Anc.sub, stCells, List.map, List.length_cons, List.length_nil, Nat.reduceAdd, List.drop_succ_cons, List.drop_zero, List.drop_nil, List.take_succ_cons, List.take_zero, List.take_nil, List.cons_append, List.nil_append, zCF, ldSF] at hS
  generalize Act.tau a 2 = v2 at hS
  refine then_n ?_
  refine wp_seq ?_
  refine region_seq hS (by kernel_rfl)
      (Chain.cons (Cert.free rfl (o_callP (limRead_c _ (by decide)) Tryd.func19 rfl (by kernel_rfl) (Args.one (.cs (by kernel_rfl))))) trivial trivial
      (Chain.cons (Cert.free rfl (o_move .t (by rfl))) ⟨rfl, trivial⟩ trivial
      (Chain.cons (Cert.free rfl (o_extract .t rfl)) ⟨rfl, trivial⟩ trivial
      (Chain.cons (Cert.free rfl (o_extract .t rfl)) ⟨rfl, trivial⟩ trivial
      (Chain.cons (Cert.free rfl (o_alloc (zs := [.int .i64 0, .int .i64 0, .int .i64 0, .int .i64 0, .int .i64 0]) 103 (by kernel_rfl))) trivial trivial
      (Chain.cons (Cert.free rfl (o_storeA (sz := 5) 103 .same (.conv .t .agg) (by kernel_rfl) (by kernel_rfl) (by kernel_rfl))) ⟨rfl, rfl, trivial⟩ ⟨rfl, trivial⟩
      (Chain.cons (Cert.free rfl (o_assign .t (by rfl))) ⟨rfl, trivial⟩ trivial
      Chain.nil)))))))
      (by kernel_rfl) (by rw [hB]; kernel_rfl) ?_
  clear hS; intro a w F hS
  replace hS := hS.sub
  replace hS := hS.norm [(0, _), (1, _), (2, _), (3, _), (5, _)] [(0, _), (101, _), (102, _), (103, _)] ⟨rfl, rfl, rfl, rfl, rfl, trivial⟩ ⟨rfl, rfl, rfl, rfl, trivial⟩
  obtain ⟨F, hS⟩ := hS
  try dsimp only [RS.sub, SF.sub, CF.sub, csub, Anc.sub, stCells, List.map, List.length_cons, List.length_nil, Nat.reduceAdd, List.drop_succ_cons, List.drop_zero, List.drop_nil, List.take_succ_cons, List.take_zero, List.take_nil, List.cons_append, List.nil_append, zCF, ldSF] at hS
  generalize Act.tau a 4 = v4 at hS
  refine then_n ?_
  refine wp_seq ?_
  refine region_seq hS (by kernel_rfl)
      (Chain.cons (Cert.free rfl (o_callP (limRead_c _ (by decide)) Tryd.func19 rfl (by kernel_rfl) (Args.one (.cs (by kernel_rfl))))) trivial trivial
      (Chain.cons (Cert.free rfl (o_move .t (by rfl))) ⟨rfl, trivial⟩ trivial
      (Chain.cons (Cert.free rfl (o_extract .t rfl)) ⟨rfl, trivial⟩ trivial
      (Chain.cons (Cert.free rfl (o_extract .t rfl)) ⟨rfl, trivial⟩ trivial
      (Chain.cons (Cert.free rfl (o_alloc (zs := [.int .i64 0, .int .i64 0, .int .i64 0, .int .i64 0, .int .i64 0]) 104 (by kernel_rfl))) trivial trivial
      (Chain.cons (Cert.free rfl (o_storeA (sz := 5) 104 .same (.conv .t .agg) (by kernel_rfl) (by kernel_rfl) (by kernel_rfl))) ⟨rfl, rfl, trivial⟩ ⟨rfl, trivial⟩
      (Chain.cons (Cert.free rfl (o_assign .t (by rfl))) ⟨rfl, trivial⟩ trivial
      Chain.nil)))))))
      (by kernel_rfl) (by rw [hB]; kernel_rfl) ?_
  clear hS; intro a w F hS
  replace hS := hS.sub
  replace hS := hS.norm [(0, _), (1, _), (2, _), (3, _), (5, _), (7, _)] [(0, _), (101, _), (102, _), (103, _), (104, _)] ⟨rfl, rfl, rfl, rfl, rfl, rfl, trivial⟩ ⟨rfl, rfl, rfl, rfl, rfl, trivial⟩
  obtain ⟨F, hS⟩ := hS
  try dsimp only [RS.sub, SF.sub, CF.sub, csub, Anc.sub, stCells, List.map, List.length_cons, List.length_nil, Nat.reduceAdd, List.drop_succ_cons, List.drop_zero, List.drop_nil, List.take_succ_cons, List.take_zero, List.take_nil, List.cons_append, List.nil_append, zCF, ldSF] at hS
  generalize Act.tau a 6 = v6 at hS
  refine then_n ?_
  refine wp_seq ?_
  refine region_seq hS (by kernel_rfl)
      (Chain.cons (Cert.free rfl (o_callP (limRead_c _ (by decide)) Tryd.func19 rfl (by kernel_rfl) (Args.one (.cs (by kernel_rfl))))) trivial trivial
      (Chain.cons (Cert.free rfl (o_move .t (by rfl))) ⟨rfl, trivial⟩ trivial
      (Chain.cons (Cert.free rfl (o_extract .t rfl)) ⟨rfl, trivial⟩ trivial
      (Chain.cons (Cert.free rfl (o_extract .t rfl)) ⟨rfl, trivial⟩ trivial
      (Chain.cons (Cert.free rfl (o_alloc (zs := [.int .i64 0, .int .i64 0, .int .i64 0, .int .i64 0, .int .i64 0]) 105 (by kernel_rfl))) trivial trivial
      (Chain.cons (Cert.free rfl (o_storeA (sz := 5) 105 .same (.conv .t .agg) (by kernel_rfl) (by kernel_rfl) (by kernel_rfl))) ⟨rfl, rfl, trivial⟩ ⟨rfl, trivial⟩
      (Chain.cons (Cert.free rfl (o_assign .t (by rfl))) ⟨rfl, trivial⟩ trivial
      Chain.nil)))))))
      (by kernel_rfl) (by rw [hB]; kernel_rfl) ?_
  clear hS; intro a w F hS
  replace hS := hS.sub
  replace hS := hS.norm [(0, _), (1, _), (2, _), (3, _), (5, _), (7, _), (9, _)] [(0, _), (101, _), (102, _), (103, _), (104, _), (105, _)] ⟨rfl, rfl, rfl, rfl, rfl, rfl, rfl, trivial⟩ ⟨rfl, rfl, rfl, rfl, rfl, rfl, trivial⟩
  obtain ⟨F, hS⟩ := hS
  try dsimp only [RS.sub, SF.sub, CF.sub, csub, Anc.sub, stCells, List.map, List.length_cons, List.length_nil, Nat.reduceAdd, List.drop_succ_cons, List.drop_zero, List.drop_nil, List.take_succ_cons, List.take_zero, List.take_nil, List.cons_append, List.nil_append, zCF, ldSF] at hS
  generalize Act.tau a 8 = v8 at hS
  refine then_n ?_
  refine wp_seq ?_
  refine region_seq hS (by kernel_rfl)
      (Chain.cons (Cert.free rfl (o_callP (limRead_c _ (by decide)) Tryd.func19 rfl (by kernel_rfl) (Args.one (.cs (by kernel_rfl))))) trivial trivial
      (Chain.cons (Cert.free rfl (o_move .t (by rfl))) ⟨rfl, trivial⟩ trivial
      (Chain.cons (Cert.free rfl (o_extract .t rfl)) ⟨rfl, trivial⟩ trivial
      (Chain.cons (Cert.free rfl (o_extract .t rfl)) ⟨rfl, trivial⟩ trivial
      (Chain.cons (Cert.free rfl (o_alloc (zs := [.int .i64 0, .int .i64 0, .int .i64 0, .int .i64 0, .int .i64 0]) 106 (by kernel_rfl))) trivial trivial
      (Chain.cons (Cert.free rfl (o_storeA (sz := 5) 106 .same (.conv .t .agg) (by kernel_rfl) (by kernel_rfl) (by kernel_rfl))) ⟨rfl, rfl, trivial⟩ ⟨rfl, trivial⟩
      (Chain.cons (Cert.free rfl (o_assign .t (by rfl))) ⟨rfl, trivial⟩ trivial
      Chain.nil)))))))
      (by kernel_rfl) (by rw [hB]; kernel_rfl) ?_
  clear hS; intro a w F hS
  replace hS := hS.sub
  replace hS := hS.norm [(0, _), (1, _), (2, _), (3, _), (5, _), (7, _), (9, _), (11, _)] [(0, _), (101, _), (102, _), (103, _), (104, _), (105, _), (106, _)] ⟨rfl, rfl, rfl, rfl, rfl, rfl, rfl, rfl, trivial⟩ ⟨rfl, rfl, rfl, rfl, rfl, rfl, rfl, trivial⟩
  obtain ⟨F, hS⟩ := hS
  try dsimp only [RS.sub, SF.sub, CF.sub, csub, Anc.sub, stCells, List.map, List.length_cons, List.length_nil, Nat.reduceAdd, List.drop_succ_cons, List.drop_zero, List.drop_nil, List.take_succ_cons, List.take_zero, List.take_nil, List.cons_append, List.nil_append, zCF, ldSF] at hS
  generalize Act.tau a 10 = v10 at hS
  refine then_n ?_
  refine wp_seq ?_
  refine region_seq hS (by kernel_rfl)
      (Chain.cons (Cert.free rfl (o_callP (limRead_c _ (by decide)) Tryd.func19 rfl (by kernel_rfl) (Args.one (.cs (by kernel_rfl))))) trivial trivial
      (Chain.cons (Cert.free rfl (o_move .t (by rfl))) ⟨rfl, trivial⟩ trivial
      (Chain.cons (Cert.free rfl (o_extract .t rfl)) ⟨rfl, trivial⟩ trivial
      (Chain.cons (Cert.free rfl (o_extract .t rfl)) ⟨rfl, trivial⟩ trivial
      (Chain.cons (Cert.free rfl (o_alloc (zs := [.int .i64 0, .int .i64 0, .int .i64 0, .int .i64 0, .int .i64 0]) 107 (by kernel_rfl))) trivial trivial
      (Chain.cons (Cert.free rfl (o_storeA (sz := 5) 107 .same (.conv .t .agg) (by kernel_rfl) (by kernel_rfl) (by kernel_rfl))) ⟨rfl, rfl, trivial⟩ ⟨rfl, trivial⟩
      (Chain.cons (Cert.free rfl (o_assign .t (by rfl))) ⟨rfl, trivial⟩ trivial
      Chain.nil)))))))
      (by kernel_rfl) (by rw [hB]; kernel_rfl) ?_
  clear hS; intro a w F hS
  replace hS := hS.sub
  replace hS := hS.norm [(0, _), (1, _), (2, _), (3, _), (5, _), (7, _), (9, _), (11, _), (13, _)] [(0, _), (101, _), (102, _), (103, _), (104, _), (105, _), (106, _), (107, _)] ⟨rfl, rfl, rfl, rfl, rfl, rfl, rfl, rfl, rfl, trivial⟩ ⟨rfl, rfl, rfl, rfl, rfl, rfl, rfl, rfl, trivial⟩
  obtain ⟨F, hS⟩ := hS
  try dsimp only [RS.sub, SF.sub, CF.sub, csub, Anc.sub, stCells, List.map, List.length_cons, List.length_nil, Nat.reduceAdd, List.drop_succ_cons, List.drop_zero, List.drop_nil, List.take_succ_cons, List.take_zero, List.take_nil, List.cons_append, List.nil_append, zCF, ldSF] at hS
  generalize Act.tau a 12 = v12 at hS
  refine then_n ?_
  refine wp_seq ?_
  refine region_seq hS (by kernel_rfl)
      (Chain.cons (Cert.free rfl (o_callP (limRead_c _ (by decide)) Tryd.func19 rfl (by kernel_rfl) (Args.one (.cs (by kernel_rfl))))) trivial trivial
      (Chain.cons (Cert.free rfl (o_move .t (by rfl))) ⟨rfl, trivial⟩ trivial
      (Chain.cons (Cert.free rfl (o_extract .t rfl)) ⟨rfl, trivial⟩ trivial
      (Chain.cons (Cert.free rfl (o_extract .t rfl)) ⟨rfl, trivial⟩ trivial
      (Chain.cons (Cert.free rfl (o_alloc (zs := [.int .i64 0, .int .i64 0, .int .i64 0, .int .i64 0, .int .i64 0]) 108 (by kernel_rfl))) trivial trivial
      (Chain.cons (Cert.free rfl (o_storeA (sz := 5) 108 .same (.conv .t .agg) (by kernel_rfl) (by kernel_rfl) (by kernel_rfl))) ⟨rfl, rfl, trivial⟩ ⟨rfl, trivial⟩
      (Chain.cons (Cert.free rfl (o_assign .t (by rfl))) ⟨rfl, trivial⟩ trivial
      Chain.nil)))))))
      (by kernel_rfl) (by rw [hB]; kernel_rfl) ?_
  clear hS; intro a w F hS
  replace hS := hS.sub
  replace hS := hS.norm [(0, _), (1, _), (2, _), (3, _), (5, _), (7, _), (9, _), (11, _), (13, _), (15, _)] [(0, _), (101, _), (102, _), (103, _), (104, _), (105, _), (106, _), (107, _), (108, _)] ⟨rfl, rfl, rfl, rfl, rfl, rfl, rfl, rfl, rfl, rfl, trivial⟩ ⟨rfl, rfl, rfl, rfl, rfl, rfl, rfl, rfl, rfl, trivial⟩
  obtain ⟨F, hS⟩ := hS
  try dsimp only [RS.sub, SF.sub, CF.sub, csub, Anc.sub, stCells, List.map, List.length_cons, List.length_nil, Nat.reduceAdd, List.drop_succ_cons, List.drop_zero, List.drop_nil, List.take_succ_cons, List.take_zero, List.take_nil, List.cons_append, List.nil_append, zCF, ldSF] at hS
  generalize Act.tau a 14 = v14 at hS
  refine then_n ?_
  refine wp_seq ?_
  refine region_seq hS (by kernel_rfl)
      (Chain.cons (Cert.free rfl (o_load (ag := true) (sz := 5) 102 .is (by kernel_rfl) (by kernel_rfl) (by kernel_rfl) (by rfl))) ⟨rfl, trivial⟩ ⟨rfl, trivial⟩
      (Chain.cons (Cert.free rfl (o_load (ag := true) (sz := 5) 101 .is (by kernel_rfl) (by kernel_rfl) (by kernel_rfl) (by rfl))) ⟨rfl, trivial⟩ ⟨rfl, trivial⟩
      (Chain.cons (Cert.free rfl (o_eqlS (ks := [true, true, true, true, true]) (by kernel_rfl) .t .t (.int (.int (.int (.int (.int .nil))))))) ⟨rfl, rfl, trivial⟩ trivial
      (Chain.cons (Cert.free rfl (o_move .t (by rfl))) ⟨rfl, trivial⟩ trivial
      (Chain.cons (Cert.cond rfl rfl (fun h => o_move .t (by rfl))) ⟨rfl, rfl, trivial⟩ trivial
      (Chain.cons (Cert.cond rfl rfl (fun h => o_eql (.w h) (.ci (by kernel_rfl)))) ⟨rfl, rfl, trivial⟩ trivial
      (Chain.cons (Cert.free rfl (o_and2 .t .t)) ⟨rfl, rfl, trivial⟩ trivial
      (Chain.cons (Cert.free rfl (o_move .t (by rfl))) ⟨rfl, trivial⟩ trivial
      (Chain.cons (Cert.cond rfl rfl (fun h => o_move .t (by rfl))) ⟨rfl, rfl, trivial⟩ trivial
      (Chain.cons (Cert.cond rfl rfl (fun h => o_eql (.w h) (.ci (by kernel_rfl)))) ⟨rfl, rfl, trivial⟩ trivial
      (Chain.cons (Cert.free rfl (o_and2 .t .t)) ⟨rfl, rfl, trivial⟩ trivial
      (Chain.cons (Cert.free rfl (o_move .t (by rfl))) ⟨rfl, trivial⟩ trivial
      (Chain.cons (Cert.cond rfl rfl (fun h => o_move .t (by rfl))) ⟨rfl, rfl, trivial⟩ trivial
      (Chain.cons (Cert.cond rfl rfl (fun h => o_eql (.w h) (.ci (by kernel_rfl)))) ⟨rfl, rfl, trivial⟩ trivial
      (Chain.cons (Cert.free rfl (o_and2 .t .t)) ⟨rfl, rfl, trivial⟩ trivial
      (Chain.cons (Cert.free rfl (o_move .t (by rfl))) ⟨rfl, trivial⟩ trivial
      (Chain.cons (Cert.cond rfl rfl (fun h => o_move .t (by rfl))) ⟨rfl, rfl, trivial⟩ trivial
      (Chain.cons (Cert.cond rfl rfl (fun h => o_eql (.w h) (.ci (by kernel_rfl)))) ⟨rfl, rfl, trivial⟩ trivial
      (Chain.cons (Cert.free rfl (o_and2 .t .t)) ⟨rfl, rfl, trivial⟩ trivial
      (Chain.cons (Cert.free rfl (o_move .t (by rfl))) ⟨rfl, trivial⟩ trivial
      (Chain.cons (Cert.cond rfl rfl (fun h => o_move .t (by rfl))) ⟨rfl, rfl, trivial⟩ trivial
      (Chain.cons (Cert.cond rfl rfl (fun h => o_eql (.w h) (.ci (by kernel_rfl)))) ⟨rfl, rfl, trivial⟩ trivial
      (Chain.cons (Cert.free rfl (o_and2 .t .t)) ⟨rfl, rfl, trivial⟩ trivial
      (Chain.cons (Cert.free rfl (o_move .t (by rfl))) ⟨rfl, trivial⟩ trivial
      (Chain.cons (Cert.cond rfl rfl (fun h => o_move .t (by rfl))) ⟨rfl, rfl, trivial⟩ trivial
      (Chain.cons (Cert.cond rfl rfl (fun h => o_eql (.w h) (.ci (by kernel_rfl)))) ⟨rfl, rfl, trivial⟩ trivial
      (Chain.cons (Cert.free rfl (o_and2 .t .t)) ⟨rfl, rfl, trivial⟩ trivial
      (Chain.cons (Cert.free rfl (o_move .t (by rfl))) ⟨rfl, trivial⟩ trivial
      (Chain.cons (Cert.cond rfl rfl (fun h => o_move .t (by rfl))) ⟨rfl, rfl, trivial⟩ trivial
      (Chain.cons (Cert.cond rfl rfl (fun h => o_eql (.w h) (.ci (by kernel_rfl)))) ⟨rfl, rfl, trivial⟩ trivial
      (Chain.cons (Cert.free rfl (o_and2 .t .t)) ⟨rfl, rfl, trivial⟩ trivial
      (Chain.cons (Cert.free rfl (o_move .t (by rfl))) ⟨rfl, trivial⟩ trivial
      (Chain.cons (Cert.cond rfl rfl (fun h => o_load (ag := true) (sz := 5) 101 .is (by kernel_rfl) (by kernel_rfl) (by kernel_rfl) (by rfl))) ⟨rfl, rfl, trivial⟩ ⟨rfl, trivial⟩
      (Chain.cons (Cert.cond rfl rfl (fun h => o_callP (limText_c ⟨8, 16, 100, 5, 128⟩) Tryd.func23 rfl (by kernel_rfl) (Args.one (.pagg (.w h))))) ⟨rfl, rfl, trivial⟩ trivial
      (Chain.cons (Cert.cond rfl rfl (fun h => o_eql_bs Tryd.underlying9 (.w h) (.cs (by kernel_rfl)))) ⟨rfl, rfl, trivial⟩ trivial
      (Chain.cons (Cert.free rfl (o_and2 .t .t)) ⟨rfl, rfl, trivial⟩ trivial
      (Chain.cons (Cert.free rfl (o_move .t (by rfl))) ⟨rfl, trivial⟩ trivial
      (Chain.cons (Cert.cond rfl rfl (fun h => o_build (r := []) (zs := [.int .i64 0, .int .i64 0, .int .i64 0, .int .i64 0, .int .i64 0]) (pl := [(0, 1), (1, 1), (2, 1), (3, 1), (4, 1)]) (by kernel_rfl) (by kernel_rfl) .nil (by rfl))) ⟨rfl, trivial⟩ trivial
      (Chain.cons (Cert.cond rfl rfl (fun h => o_callP (limText_c zeroL) Tryd.func23 rfl (by kernel_rfl) (Args.one (.pagg (.w h))))) ⟨rfl, rfl, trivial⟩ trivial
      (Chain.cons (Cert.cond rfl rfl (fun h => o_eql_bs Tryd.underlying9 (.w h) (.cs (by kernel_rfl)))) ⟨rfl, rfl, trivial⟩ trivial
      (Chain.cons (Cert.free rfl (o_and2 .t .t)) ⟨rfl, rfl, trivial⟩ trivial
      (Chain.cons (Cert.free rfl (o_move .t (by rfl))) ⟨rfl, trivial⟩ trivial
      (Chain.cons (Cert.cond rfl rfl (fun h => o_load (ag := true) (sz := 5) 101 .is (by kernel_rfl) (by kernel_rfl) (by kernel_rfl) (by rfl))) ⟨rfl, rfl, trivial⟩ ⟨rfl, trivial⟩
      (Chain.cons (Cert.cond rfl rfl (fun h => o_callP (right_c ⟨8, 16, 100, 5, 128⟩) Tryd.func21 rfl (by kernel_rfl) (Args.one (.pagg (.w h))))) ⟨rfl, rfl, trivial⟩ trivial
      (Chain.cons (Cert.free rfl (o_and2 .t .t)) ⟨rfl, rfl, trivial⟩ trivial
      (Chain.cons (Cert.free rfl (o_move .t (by rfl))) ⟨rfl, trivial⟩ trivial
      (Chain.cons (Cert.cond rfl rfl (fun h => o_build (r := []) (zs := [.int .i64 0, .int .i64 0, .int .i64 0, .int .i64 0, .int .i64 0]) (pl := [(0, 1), (1, 1), (2, 1), (3, 1), (4, 1)]) (by kernel_rfl) (by kernel_rfl) .nil (by rfl))) ⟨rfl, trivial⟩ trivial
      (Chain.cons (Cert.cond rfl rfl (fun h => o_callP (right_c zeroL) Tryd.func21 rfl (by kernel_rfl) (Args.one (.pagg (.w h))))) ⟨rfl, rfl, trivial⟩ trivial
      (Chain.cons (Cert.cond rfl rfl (fun h => o_not (.w h))) ⟨rfl, rfl, trivial⟩ trivial
      (Chain.cons (Cert.free rfl (o_and2 .t .t)) ⟨rfl, rfl, trivial⟩ trivial
      (Chain.cons (Cert.free rfl (o_move .t (by rfl))) ⟨rfl, trivial⟩ trivial
      (Chain.cons (Cert.cond rfl rfl (fun h => o_callP (most_c) Tryd.func29 rfl (by kernel_rfl) Args.nil)) ⟨rfl, trivial⟩ trivial
      (Chain.cons (Cert.cond rfl rfl (fun h => o_build (r := [(0, _), (1, _), (2, _), (3, _), (4, _)]) (zs := [.int .i64 0, .int .i64 0, .int .i64 0, .int .i64 0, .int .i64 0]) (pl := [(0, 1), (1, 1), (2, 1), (3, 1), (4, 1)]) (by kernel_rfl) (by kernel_rfl) (.one rfl (.ci (by kernel_rfl)) one_int (by kernel_rfl) (.one rfl (.ci (by kernel_rfl)) one_int (by kernel_rfl) (.one rfl (.ci (by kernel_rfl)) one_int (by kernel_rfl) (.one rfl (.ci (by kernel_rfl)) one_int (by kernel_rfl) (.one rfl (.ci (by kernel_rfl)) one_int (by kernel_rfl) .nil))))) (by rfl))) ⟨rfl, trivial⟩ trivial
      (Chain.cons (Cert.cond rfl rfl (fun h => o_eqlS (ks := [true, true, true, true, true]) (by kernel_rfl) (.conv (.w h) (.agg (l := rLim mostL))) (.w h) (.int (.int (.int (.int (.int .nil))))))) ⟨rfl, rfl, rfl, trivial⟩ trivial
      (Chain.cons (Cert.free rfl (o_and2 .t .t)) ⟨rfl, rfl, trivial⟩ trivial
      (Chain.cons (Cert.free rfl (o_move .t (by rfl))) ⟨rfl, trivial⟩ trivial
      (Chain.cons (Cert.cond rfl rfl (fun h => o_build (r := [(1, _)]) (zs := [.int .i64 0, .int .i64 0, .int .i64 0, .int .i64 0, .int .i64 0]) (pl := [(0, 1), (1, 1), (2, 1), (3, 1), (4, 1)]) (by kernel_rfl) (by kernel_rfl) (.one rfl (.ci (by kernel_rfl)) one_int (by kernel_rfl) .nil) (by rfl))) ⟨rfl, trivial⟩ trivial
      (Chain.cons (Cert.cond rfl rfl (fun h => o_makeSliceE (R := rOp) (v := ⟨false, 0, 0, 0⟩) (c := 2) (sz := 4) (bs := 32) (zs := [.bool false, .int .i64 0, .int .i64 0, .int .i64 0]) Tryd.underlying34 (by kernel_rfl) (by kernel_rfl) (by kernel_rfl) op0_pvs (.ci (by kernel_rfl)) (.ci (by kernel_rfl)) (by decide) (by decide) (by decide))) ⟨rfl, trivial⟩ trivial
      (Chain.cons (Cert.cond rfl rfl (fun h => o_build (r := [(2, .tmp 102)]) (zs := [.int .i64 0, .bool false, .slice none 0 0]) (pl := [(0, 1), (1, 1), (2, 1)]) (by kernel_rfl) (by kernel_rfl) (.one rfl (.w h) one_sl (by kernel_rfl) .nil) (by rfl))) ⟨rfl, rfl, trivial⟩ trivial
      (Chain.cons (Cert.cond rfl rfl (fun h => o_callP (tx_c ⟨0, 1, 0, 0, 0⟩ ⟨0, false, List.replicate (Int.toNat 2) ⟨false, 0, 0, 0⟩⟩) Tryd.func25 rfl (by kernel_rfl) (Args.two (.pagg (.w h)) (.pagg (.w h))))) ⟨rfl, rfl, rfl, trivial⟩ trivial
      (Chain.cons (Cert.cond rfl rfl (fun h => o_eql (.w h) (.ci (by kernel_rfl)))) ⟨rfl, rfl, trivial⟩ trivial
      (Chain.cons (Cert.free rfl (o_and2 .t .t)) ⟨rfl, rfl, trivial⟩ trivial
      (Chain.cons (Cert.free rfl (o_move .t (by rfl))) ⟨rfl, trivial⟩ trivial
      (Chain.cons (Cert.cond rfl rfl (fun h => o_load (ag := true) (sz := 5) 101 .is (by kernel_rfl) (by kernel_rfl) (by kernel_rfl) (by rfl))) ⟨rfl, rfl, trivial⟩ ⟨rfl, trivial⟩
      (Chain.cons (Cert.cond rfl rfl (fun h => o_build (r := []) (zs := [.int .i64 0, .bool false, .slice none 0 0]) (pl := [(0, 1), (1, 1), (2, 1)]) (by kernel_rfl) (by kernel_rfl) .nil (by rfl))) ⟨rfl, trivial⟩ trivial
      (Chain.cons (Cert.cond rfl rfl (fun h => o_callP (tx_c ⟨8, 16, 100, 5, 128⟩ ⟨0, false, []⟩) Tryd.func25 rfl (by kernel_rfl) (Args.two (.pagg (.w h)) (.conv (.pagg (.w h)) (Ent.paggLe tx0_le))))) ⟨rfl, rfl, rfl, trivial⟩ trivial
      (Chain.cons (Cert.cond rfl rfl (fun h => o_eql (.w h) (.ci (by kernel_rfl)))) ⟨rfl, rfl, trivial⟩ trivial
      (Chain.cons (Cert.free rfl (o_and2 .t .t)) ⟨rfl, rfl, trivial⟩ trivial
      (Chain.cons (Cert.free rfl (o_move .t (by rfl))) ⟨rfl, trivial⟩ trivial
      (Chain.cons (Cert.cond rfl rfl (fun h => o_build (r := [(0, _), (2, _)]) (zs := [.int .i64 0, .int .i64 0, .int .i64 0, .int .i64 0, .int .i64 0]) (pl := [(0, 1), (1, 1), (2, 1), (3, 1), (4, 1)]) (by kernel_rfl) (by kernel_rfl) (.one rfl (.ci (by kernel_rfl)) one_int (by kernel_rfl) (.one rfl (.ci (by kernel_rfl)) one_int (by kernel_rfl) .nil)) (by rfl))) ⟨rfl, trivial⟩ trivial
      (Chain.cons (Cert.cond rfl rfl (fun h => o_build (r := []) (zs := [.int .i64 0, .bool false, .slice none 0 0]) (pl := [(0, 1), (1, 1), (2, 1)]) (by kernel_rfl) (by kernel_rfl) .nil (by rfl))) ⟨rfl, trivial⟩ trivial
      (Chain.cons (Cert.cond rfl rfl (fun h => o_buildSliceE (sz := 3) (zs := [.int .i64 0, .bool false, .slice none 0 0]) (r := [(0, .tmp 115)]) (l := [_, _, _]) Tryd.underlying37 (by kernel_rfl) (by kernel_rfl) (by kernel_rfl) (by kernel_rfl) rfl rfl (.agg rfl (.w h) (by kernel_rfl) (by kernel_rfl) .nil) rfl)) ⟨rfl, rfl, trivial⟩ trivial
      (Chain.cons (Cert.cond rfl rfl (fun h => o_build (r := [(0, .tmp 116)]) (zs := [.slice none 0 0, .slice none 0 0]) (pl := [(0, 1), (1, 1)]) (by kernel_rfl) (by kernel_rfl) (.one rfl (.w h) one_arr (by kernel_rfl) .nil) (by rfl))) ⟨rfl, rfl, trivial⟩ trivial
      (Chain.cons (Cert.cond rfl rfl (fun h => o_callP (fits_c ⟨1, 0, 0, 0, 0⟩ ⟨[⟨0, false, []⟩], []⟩ (by decide)) Tryd.func27 rfl (by kernel_rfl) (Args.two (.pagg (.w h)) (.conv (.pagg (.w h)) (Ent.paggLe h1_le))))) ⟨rfl, rfl, rfl, trivial⟩ trivial
      (Chain.cons (Cert.cond rfl rfl (fun h => o_eql (.w h) (.ci (by kernel_rfl)))) ⟨rfl, rfl, trivial⟩ trivial
      (Chain.cons (Cert.free rfl (o_and2 .t .t)) ⟨rfl, rfl, trivial⟩ trivial
      (Chain.cons (Cert.free rfl (o_move .t (by rfl))) ⟨rfl, trivial⟩ trivial
      (Chain.cons (Cert.cond rfl rfl (fun h => o_build (r := [(0, _), (2, _)]) (zs := [.int .i64 0, .int .i64 0, .int .i64 0, .int .i64 0, .int .i64 0]) (pl := [(0, 1), (1, 1), (2, 1), (3, 1), (4, 1)]) (by kernel_rfl) (by kernel_rfl) (.one rfl (.ci (by kernel_rfl)) one_int (by kernel_rfl) (.one rfl (.ci (by kernel_rfl)) one_int (by kernel_rfl) .nil)) (by rfl))) ⟨rfl, trivial⟩ trivial
      (Chain.cons (Cert.cond rfl rfl (fun h => o_build (r := []) (zs := [.int .i64 0, .bool false, .slice none 0 0]) (pl := [(0, 1), (1, 1), (2, 1)]) (by kernel_rfl) (by kernel_rfl) .nil (by rfl))) ⟨rfl, trivial⟩ trivial
      (Chain.cons (Cert.cond rfl rfl (fun h => o_buildSliceE (sz := 3) (zs := [.int .i64 0, .bool false, .slice none 0 0]) (r := [(0, .tmp 123)]) (l := [_, _, _]) Tryd.underlying37 (by kernel_rfl) (by kernel_rfl) (by kernel_rfl) (by kernel_rfl) rfl rfl (.agg rfl (.w h) (by kernel_rfl) (by kernel_rfl) .nil) rfl)) ⟨rfl, rfl, trivial⟩ trivial
      (Chain.cons (Cert.cond rfl rfl (fun h => o_build (r := [(0, .tmp 124)]) (zs := [.slice none 0 0, .slice none 0 0]) (pl := [(0, 1), (1, 1)]) (by kernel_rfl) (by kernel_rfl) (.one rfl (.w h) one_arr (by kernel_rfl) .nil) (by rfl))) ⟨rfl, rfl, trivial⟩ trivial
      (Chain.cons (Cert.cond rfl rfl (fun h => o_callP (fits_c ⟨1, 0, 1, 0, 0⟩ ⟨[⟨0, false, []⟩], []⟩ (by decide)) Tryd.func27 rfl (by kernel_rfl) (Args.two (.pagg (.w h)) (.conv (.pagg (.w h)) (Ent.paggLe h1_le))))) ⟨rfl, rfl, rfl, trivial⟩ trivial
      (Chain.cons (Cert.cond rfl rfl (fun h => o_eql (.w h) (.ci (by kernel_rfl)))) ⟨rfl, rfl, trivial⟩ trivial
      (Chain.cons (Cert.free rfl (o_and2 .t .t)) ⟨rfl, rfl, trivial⟩ trivial
      (Chain.cons (Cert.free rfl (o_assign .t (by rfl))) ⟨rfl, trivial⟩ trivial
      Chain.nil)))))))))))))))))))))))))))))))))))))))))))))))))))))))))))))))))))))))))))))))))))))
      (by kernel_rfl) (by rw [hB]; kernel_rfl) ?_
  clear hS; intro a w F hS
  replace hS := hS.norm [(0, _)] [(0, _), (101, _), (102, _), (103, _), (104, _), (105, _), (106, _), (107, _), (108, _)] ⟨rfl, trivial⟩ ⟨rfl, rfl, rfl, rfl, rfl, rfl, rfl, rfl, rfl, trivial⟩
  obtain ⟨F, hS⟩ := hS
  try dsimp only [RS.sub, SF.sub, CF.sub, csub, Anc.sub, stCells, List.map, List.length_cons, List.length_nil, Nat.reduceAdd, List.drop_succ_cons, List.drop_zero, List.drop_nil, List.take_succ_cons, List.take_zero, List.take_nil, List.cons_append, List.nil_append, zCF, ldSF] at hS
  refine then_n ?_
  refine wp_ret ?_
  refine ret_P hfr hS rfl (.tmp rfl .nil) (.one (.bool (by decide +kernel)))

theorem limitsTell_c (l : LimD) (t : TxD) (u : HistD) (s0 : List UInt8) : FnP Tryd.prog 5 [.agg (rLim l), .agg (rTx t), .agg (rHist u), .bs s0] (.bool true) := by
  refine FnP.mk Tryd.func5 rfl Tryd.ntmps5 rfl ?_
  intro B a w F hB hfr hS
  refine wp_seq ?_
  refine region_seq hS (by kernel_rfl)
      (Chain.cons (Cert.free rfl (o_boxA 101 (.conv .t .agg) (by kernel_rfl))) ⟨rfl, trivial⟩ trivial
      (Chain.cons (Cert.free rfl (o_boxA 102 (.conv .t .agg) (by kernel_rfl))) ⟨rfl, trivial⟩ trivial
      (Chain.cons (Cert.free rfl (o_boxA 103 (.conv .t .agg) (by kernel_rfl))) ⟨rfl, trivial⟩ trivial
      (Chain.cons (Cert.free rfl (o_assign .cb (by rfl))) trivial trivial
      Chain.nil))))
      (by kernel_rfl) (by rw [hB]; kernel_rfl) ?_
  clear hS; intro a w F hS
  replace hS := hS.sub
  replace hS := hS.norm [(3, _), (4, _), (5, _), (6, _), (8, _)] [(0, _), (101, _), (102, _), (103, _)] ⟨rfl, rfl, rfl, rfl, rfl, trivial⟩ ⟨rfl, rfl, rfl, rfl, trivial⟩
  obtain ⟨F, hS⟩ := hS
  try dsimp only [RS.sub, SF.sub, CF.sub, csub, Anc.sub, stCells, List.map, List.length_cons, List.length_nil, Nat.reduceAdd, List.drop_succ_cons, List.drop_zero, List.drop_nil, List.take_succ_cons, List.take_zero, List.take_nil, List.cons_append, List.nil_append, zCF, ldSF] at hS
  generalize Act.tau a 4 = v4 at hS
  generalize Act.tau a 5 = v5 at hS
  generalize Act.tau a 6 = v6 at hS
  refine then_n ?_
  refine wp_seq ?_
  refine wp_seq ?_
  refine region_seq hS (by kernel_rfl)
      (Chain.cons (Cert.free rfl (o_move .t (by rfl))) ⟨rfl, trivial⟩ trivial
      (Chain.cons (Cert.free rfl (o_len_bs Tryd.underlying9 .t)) ⟨rfl, trivial⟩ trivial
      (Chain.cons (Cert.free rfl (o_gtr .t (.ci (by kernel_rfl)))) ⟨rfl, trivial⟩ trivial
      (Chain.cons (Cert.free rfl (o_move .t (by rfl))) ⟨rfl, trivial⟩ trivial
      (Chain.cons (Cert.cond rfl rfl (fun h => o_fieldAddr (off := 2) 102 .is (by kernel_rfl) (by rfl))) ⟨rfl, rfl, trivial⟩ ⟨rfl, trivial⟩
      (Chain.cons (Cert.cond rfl rfl (fun h => o_load (ag := false) (sz := 1) 102 (.w h .adr) (by kernel_rfl) (by kernel_rfl) (by kernel_rfl) (by rfl))) ⟨rfl, rfl, trivial⟩ ⟨rfl, trivial⟩
      (Chain.cons (Cert.cond rfl rfl (fun h => o_len_sl Tryd.underlying34 (.w h))) ⟨rfl, rfl, trivial⟩ trivial
      (Chain.cons (Cert.cond rfl rfl (fun h => o_gtr (.w h) (.ci (by kernel_rfl)))) ⟨rfl, rfl, trivial⟩ trivial
      (Chain.cons (Cert.free rfl (o_or2 .t .t)) ⟨rfl, rfl, trivial⟩ trivial
      (Chain.cons (Cert.free rfl (o_move .t (by rfl))) ⟨rfl, trivial⟩ trivial
      (Chain.cons (Cert.cond rfl rfl (fun h => o_load (ag := true) (sz := 2) 103 .is (by kernel_rfl) (by kernel_rfl) (by kernel_rfl) (by rfl))) ⟨rfl, rfl, trivial⟩ ⟨rfl, trivial⟩
      (Chain.cons (Cert.cond rfl rfl (fun h => o_callP (lightH_c u) Tryd.func17 rfl (by kernel_rfl) (Args.one (.pagg (.w h))))) ⟨rfl, rfl, trivial⟩ trivial
      (Chain.cons (Cert.cond rfl rfl (fun h => o_not (.w h))) ⟨rfl, rfl, trivial⟩ trivial
      (Chain.cons (Cert.free rfl (o_or2 .t .t)) ⟨rfl, rfl, trivial⟩ trivial
      Chain.nil))))))))))))))
      (by kernel_rfl) (by rw [hB]; kernel_rfl) ?_
  clear hS; intro a w F hS
  replace hS := hS.norm [(3, _), (4, _), (5, _), (6, _), (8, _), (26, _)] [(0, _), (101, _), (102, _), (103, _)] ⟨rfl, rfl, rfl, rfl, rfl, rfl, trivial⟩ ⟨rfl, rfl, rfl, rfl, trivial⟩
  obtain ⟨F, hS⟩ := hS
  try dsimp only [RS.sub, SF.sub, CF.sub, csub, Anc.sub, stCells, List.map, List.length_cons, List.length_nil, Nat.reduceAdd, List.drop_succ_cons, List.drop_zero, List.drop_nil, List.take_succ_cons, List.take_zero, List.take_nil, List.cons_append, List.nil_append, zCF, ldSF] at hS
  refine then_n ?_
  refine cond_b hS rfl (fun hc0 => ?_) (fun hc0 => ?_)
  · skip
    refine wp_seq ?_
    refine region_seq hS (by kernel_rfl)
        (Chain.cons (Cert.free rfl (o_callP (limLives_c) Tryd.func18 rfl (by kernel_rfl) Args.nil)) trivial trivial
        (Chain.cons (Cert.free rfl (o_assign .t (by rfl))) ⟨rfl, trivial⟩ trivial
        Chain.nil))
        (by kernel_rfl) (by rw [hB]; kernel_rfl) ?_
    clear hS; intro a w F hS
    replace hS := hS.norm [(3, _), (4, _), (5, _), (6, _), (8, _)] [(0, _), (101, _), (102, _), (103, _)] ⟨rfl, rfl, rfl, rfl, rfl, trivial⟩ ⟨rfl, rfl, rfl, rfl, trivial⟩
    obtain ⟨F, hS⟩ := hS
    try dsimp only [RS.sub, SF.sub, CF.sub, csub, Anc.sub, stCells, List.map, List.length_cons, List.length_nil, Nat.reduceAdd, List.drop_succ_cons, List.drop_zero, List.drop_nil, List.take_succ_cons, List.take_zero, List.take_nil, List.cons_append, List.nil_append, zCF, ldSF] at hS
    refine then_n ?_
    refine wp_ret ?_
    refine then_r ?_
    refine ret_P hfr hS rfl (.tmp rfl .nil) (.one (.bool (by simp)))
  · skip
    have hlt : (s0.length : Int) ≤ 1000 ∧ HLight u := by
      simp at hc0
      exact ⟨by omega, hc0.2⟩
    obtain ⟨hlen, hlu⟩ := hlt
    refine wp_skip ?_
    refine then_n ?_
    refine wp_seq ?_
    refine region_seq hS (by kernel_rfl)
        (Chain.cons (Cert.free rfl (o_move .t (by rfl))) ⟨rfl, trivial⟩ trivial
        (Chain.cons (Cert.free rfl (o_callP (limRead_c s0 (by omega)) Tryd.func19 rfl (by kernel_rfl) (Args.one .t))) ⟨rfl, trivial⟩ trivial
        (Chain.cons (Cert.free rfl (o_move .t (by rfl))) ⟨rfl, trivial⟩ trivial
        (Chain.cons (Cert.free rfl (o_extract .t rfl)) ⟨rfl, trivial⟩ trivial
        (Chain.cons (Cert.free rfl (o_extract .t rfl)) ⟨rfl, trivial⟩ trivial
        (Chain.cons (Cert.free rfl (o_alloc (zs := [.int .i64 0, .int .i64 0, .int .i64 0, .int .i64 0, .int .i64 0]) 104 (by kernel_rfl))) trivial trivial
        (Chain.cons (Cert.free rfl (o_storeA (sz := 5) 104 .same (.conv .t .agg) (by kernel_rfl) (by kernel_rfl) (by kernel_rfl))) ⟨rfl, rfl, trivial⟩ ⟨rfl, trivial⟩
        (Chain.cons (Cert.free rfl (o_assign .t (by rfl))) ⟨rfl, trivial⟩ trivial
        Chain.nil))))))))
        (by kernel_rfl) (by rw [hB]; kernel_rfl) ?_
    clear hS; intro a w F hS
    replace hS := hS.sub
    replace hS := hS.norm [(3, _), (4, _), (5, _), (6, _), (8, _), (9, _), (10, _)] [(0, _), (101, _), (102, _), (103, _), (104, _)] ⟨rfl, rfl, rfl, rfl, rfl, rfl, rfl, trivial⟩ ⟨rfl, rfl, rfl, rfl, rfl, trivial⟩
    obtain ⟨F, hS⟩ := hS
    try dsimp only [RS.sub, SF.sub, CF.sub, csub, Anc.sub, stCells, List.map, List.length_cons, List.length_nil, Nat.reduceAdd, List.drop_succ_cons, List.drop_zero, List.drop_nil, List.take_succ_cons, List.take_zero, List.take_nil, List.cons_append, List.nil_append, zCF, ldSF] at hS
    generalize Act.tau a 9 = v9 at hS
    refine then_n ?_
    refine wp_seq ?_
    refine region_seq hS (by kernel_rfl)
        (Chain.cons (Cert.free rfl (o_move .t (by rfl))) ⟨rfl, trivial⟩ trivial
        (Chain.cons (Cert.free rfl (o_callP (refLimRead_c s0 (by omega)) Tryd.func20 rfl (by kernel_rfl) (Args.one .t))) ⟨rfl, trivial⟩ trivial
        (Chain.cons (Cert.free rfl (o_move .t (by rfl))) ⟨rfl, trivial⟩ trivial
        (Chain.cons (Cert.free rfl (o_extract .t rfl)) ⟨rfl, trivial⟩ trivial
        (Chain.cons (Cert.free rfl (o_extract .t rfl)) ⟨rfl, trivial⟩ trivial
        (Chain.cons (Cert.free rfl (o_alloc (zs := [.int .i64 0, .int .i64 0, .int .i64 0, .int .i64 0, .int .i64 0]) 105 (by kernel_rfl))) trivial trivial
        (Chain.cons (Cert.free rfl (o_storeA (sz := 5) 105 .same (.conv .t .agg) (by kernel_rfl) (by kernel_rfl) (by kernel_rfl))) ⟨rfl, rfl, trivial⟩ ⟨rfl, trivial⟩
        (Chain.cons (Cert.free rfl (o_assign .t (by rfl))) ⟨rfl, trivial⟩ trivial
        Chain.nil))))))))
        (by kernel_rfl) (by rw [hB]; kernel_rfl) ?_
    clear hS; intro a w F hS
    replace hS := hS.sub
    replace hS := hS.norm [(4, _), (5, _), (6, _), (8, _), (9, _), (10, _), (11, _), (12, _)] [(0, _), (101, _), (102, _), (103, _), (104, _), (105, _)] ⟨rfl, rfl, rfl, rfl, rfl, rfl, rfl, rfl, trivial⟩ ⟨rfl, rfl, rfl, rfl, rfl, rfl, trivial⟩
    obtain ⟨F, hS⟩ := hS
    try dsimp only [RS.sub, SF.sub, CF.sub, csub, Anc.sub, stCells, List.map, List.length_cons, List.length_nil, Nat.reduceAdd, List.drop_succ_cons, List.drop_zero, List.drop_nil, List.take_succ_cons, List.take_zero, List.take_nil, List.cons_append, List.nil_append, zCF, ldSF] at hS
    generalize Act.tau a 11 = v11 at hS
    refine then_n ?_
    refine wp_seq ?_
    refine region_any (by kernel_rfl) hS (by kernel_rfl)
        (Chain.cons (Cert.free rfl (o_load (ag := true) (sz := 5) 104 .is (by kernel_rfl) (by kernel_rfl) (by kernel_rfl) (by rfl))) ⟨rfl, trivial⟩ ⟨rfl, trivial⟩
        (Chain.cons (Cert.free rfl (o_load (ag := true) (sz := 5) 105 .is (by kernel_rfl) (by kernel_rfl) (by kernel_rfl) (by rfl))) ⟨rfl, trivial⟩ ⟨rfl, trivial⟩
        (Chain.cons (Cert.free rfl (o_eqlS (ks := [true, true, true, true, true]) (by kernel_rfl) .t .t (.int (.int (.int (.int (.int .nil))))))) ⟨rfl, rfl, trivial⟩ trivial
        (Chain.cons (Cert.free rfl (o_move .t (by rfl))) ⟨rfl, trivial⟩ trivial
        (Chain.cons (Cert.cond rfl rfl (fun h => o_move .t (by rfl))) ⟨rfl, rfl, trivial⟩ trivial
        (Chain.cons (Cert.cond rfl rfl (fun h => o_move .t (by rfl))) ⟨rfl, rfl, trivial⟩ trivial
        (Chain.cons (Cert.cond rfl rfl (fun h => o_eql (.w h) (.w h))) ⟨rfl, rfl, rfl, trivial⟩ trivial
        (Chain.cons (Cert.free rfl (o_and2 .t .t)) ⟨rfl, rfl, trivial⟩ trivial
        (Chain.cons (Cert.free rfl (o_move .t (by rfl))) ⟨rfl, trivial⟩ trivial
        (Chain.cons (Cert.cond rfl rfl (fun h => o_load (ag := true) (sz := 5) 101 .is (by kernel_rfl) (by kernel_rfl) (by kernel_rfl) (by rfl))) ⟨rfl, rfl, trivial⟩ ⟨rfl, trivial⟩
        (Chain.cons (Cert.cond rfl rfl (fun h => o_callP (right_c l) Tryd.func21 rfl (by kernel_rfl) (Args.one (.pagg (.w h))))) ⟨rfl, rfl, trivial⟩ trivial
        (Chain.cons (Cert.cond rfl rfl (fun h => o_load (ag := true) (sz := 5) 101 .is (by kernel_rfl) (by kernel_rfl) (by kernel_rfl) (by rfl))) ⟨rfl, rfl, trivial⟩ ⟨rfl, trivial⟩
        (Chain.cons (Cert.cond rfl rfl (fun h => o_callP (refRight_c l) Tryd.func22 rfl (by kernel_rfl) (Args.one (.pagg (.w h))))) ⟨rfl, rfl, trivial⟩ trivial
        (Chain.cons (Cert.cond rfl rfl (fun h => o_eqlB Tryd.underlying4 (.w h) (.w h))) ⟨rfl, rfl, rfl, trivial⟩ trivial
        (Chain.cons (Cert.free rfl (o_and2 .t .t)) ⟨rfl, rfl, trivial⟩ trivial
        (Chain.cons (Cert.free rfl (o_move .t (by rfl))) ⟨rfl, trivial⟩ trivial
        (Chain.cons (Cert.cond rfl rfl (fun h => o_load (ag := true) (sz := 5) 101 .is (by kernel_rfl) (by kernel_rfl) (by kernel_rfl) (by rfl))) ⟨rfl, rfl, trivial⟩ ⟨rfl, trivial⟩
        (Chain.cons (Cert.cond rfl rfl (fun h => o_callP (limText_c l) Tryd.func23 rfl (by kernel_rfl) (Args.one (.pagg (.w h))))) ⟨rfl, rfl, trivial⟩ trivial
        (Chain.cons (Cert.cond rfl rfl (fun h => o_load (ag := true) (sz := 5) 101 .is (by kernel_rfl) (by kernel_rfl) (by kernel_rfl) (by rfl))) ⟨rfl, rfl, trivial⟩ ⟨rfl, trivial⟩
        (Chain.cons (Cert.cond rfl rfl (fun h => o_callP (refLimText_c l) Tryd.func24 rfl (by kernel_rfl) (Args.one (.pagg (.w h))))) ⟨rfl, rfl, trivial⟩ trivial
        (Chain.cons (Cert.cond rfl rfl (fun h => o_eql_bs Tryd.underlying9 (.w h) (.w h))) ⟨rfl, rfl, rfl, trivial⟩ trivial
        (Chain.cons (Cert.free rfl (o_and2 .t .t)) ⟨rfl, rfl, trivial⟩ trivial
        (Chain.cons (Cert.free rfl (o_move .t (by rfl))) ⟨rfl, trivial⟩ trivial
        (Chain.cons (Cert.cond rfl rfl (fun h => o_load (ag := true) (sz := 5) 101 .is (by kernel_rfl) (by kernel_rfl) (by kernel_rfl) (by rfl))) ⟨rfl, rfl, trivial⟩ ⟨rfl, trivial⟩
        (Chain.cons (Cert.cond rfl rfl (fun h => o_load (ag := true) (sz := 3) 102 .is (by kernel_rfl) (by kernel_rfl) (by kernel_rfl) (by rfl))) ⟨rfl, rfl, trivial⟩ ⟨rfl, trivial⟩
        (Chain.cons (Cert.cond rfl rfl (fun h => o_callP (tx_c l t) Tryd.func25 rfl (by kernel_rfl) (Args.two (.pagg (.w h)) (.pagg (.w h))))) ⟨rfl, rfl, rfl, trivial⟩ trivial
        (Chain.cons (Cert.cond rfl rfl (fun h => o_load (ag := true) (sz := 5) 101 .is (by kernel_rfl) (by kernel_rfl) (by kernel_rfl) (by rfl))) ⟨rfl, rfl, trivial⟩ ⟨rfl, trivial⟩
        (Chain.cons (Cert.cond rfl rfl (fun h => o_load (ag := true) (sz := 3) 102 .is (by kernel_rfl) (by kernel_rfl) (by kernel_rfl) (by rfl))) ⟨rfl, rfl, trivial⟩ ⟨rfl, trivial⟩
        (Chain.cons (Cert.cond rfl rfl (fun h => o_callP (refTx_c l t) Tryd.func26 rfl (by kernel_rfl) (Args.two (.pagg (.w h)) (.pagg (.w h))))) ⟨rfl, rfl, rfl, trivial⟩ trivial
        (Chain.cons (Cert.cond rfl rfl (fun h => o_eql (.w h) (.w h))) ⟨rfl, rfl, rfl, trivial⟩ trivial
        (Chain.cons (Cert.free rfl (o_and2 .t .t)) ⟨rfl, rfl, trivial⟩ trivial
        (Chain.cons (Cert.free rfl (o_move .t (by rfl))) ⟨rfl, trivial⟩ trivial
        (Chain.cons (Cert.cond rfl rfl (fun h => o_load (ag := true) (sz := 5) 101 .is (by kernel_rfl) (by kernel_rfl) (by kernel_rfl) (by rfl))) ⟨rfl, rfl, trivial⟩ ⟨rfl, trivial⟩
        (Chain.cons (Cert.cond rfl rfl (fun h => o_load (ag := true) (sz := 2) 103 .is (by kernel_rfl) (by kernel_rfl) (by kernel_rfl) (by rfl))) ⟨rfl, rfl, trivial⟩ ⟨rfl, trivial⟩
        (Chain.cons (Cert.cond rfl rfl (fun h => o_callP (fits_c l u hlu) Tryd.func27 rfl (by kernel_rfl) (Args.two (.pagg (.w h)) (.pagg (.w h))))) ⟨rfl, rfl, rfl, trivial⟩ trivial
        (Chain.cons (Cert.cond rfl rfl (fun h => o_load (ag := true) (sz := 5) 101 .is (by kernel_rfl) (by kernel_rfl) (by kernel_rfl) (by rfl))) ⟨rfl, rfl, trivial⟩ ⟨rfl, trivial⟩
        (Chain.cons (Cert.cond rfl rfl (fun h => o_load (ag := true) (sz := 2) 103 .is (by kernel_rfl) (by kernel_rfl) (by kernel_rfl) (by rfl))) ⟨rfl, rfl, trivial⟩ ⟨rfl, trivial⟩
        (Chain.cons (Cert.cond rfl rfl (fun h => o_callP (refFits_c l u hlu) Tryd.func28 rfl (by kernel_rfl) (Args.two (.pagg (.w h)) (.pagg (.w h))))) ⟨rfl, rfl, rfl, trivial⟩ trivial
        (Chain.cons (Cert.cond rfl rfl (fun h => o_eql (.w h) (.w h))) ⟨rfl, rfl, rfl, trivial⟩ trivial
        (Chain.cons (Cert.free rfl (o_and2 .t .t)) ⟨rfl, rfl, trivial⟩ trivial
        (Chain.cons (Cert.free rfl (o_move .t (by rfl))) ⟨rfl, trivial⟩ trivial
        (Chain.cons (Cert.cond rfl rfl (fun h => o_callP (limLives_c) Tryd.func18 rfl (by kernel_rfl) Args.nil)) ⟨rfl, trivial⟩ trivial
        (Chain.cons (Cert.free rfl (o_and2 .t .t)) ⟨rfl, rfl, trivial⟩ trivial
        (Chain.cons (Cert.free rfl (o_assign .t (by rfl))) ⟨rfl, trivial⟩ trivial
        Chain.nil))))))))))))))))))))))))))))))))))))))))))))
        (by kernel_rfl) (by rw [hB]; kernel_rfl) ?_
    clear hS; intro a w F hS
    replace hS := hS.norm [(8, _)] [(0, _), (101, _), (102, _), (103, _), (104, _), (105, _)] ⟨rfl, trivial⟩ ⟨rfl, rfl, rfl, rfl, rfl, rfl, trivial⟩
    obtain ⟨F, hS⟩ := hS
    try dsimp only [RS.sub, SF.sub, CF.sub, csub, Anc.sub, stCells, List.map, List.length_cons, List.length_nil, Nat.reduceAdd, List.drop_succ_cons, List.drop_zero, List.drop_nil, List.take_succ_cons, List.take_zero, List.take_nil, List.cons_append, List.nil_append, zCF, ldSF] at hS
    refine then_n ?_
    refine wp_ret ?_
    refine ret_P hfr hS rfl (.tmp rfl .nil) (.one (.bool (by simp)))

end Go.Proofs.YtfldilhddeabeaaDoor
