/- OpReads. No condition beyond those that each theorem says. -/
import Derived.Test.YtjdcnjemhjldoaaDoorOp6
import Derived.Test.YtjdcnjemhjldoaaDoorDa1
namespace Go.Proofs.YtjdcnjemhjldoaaDoor
open Go Go.Gm
set_option linter.unusedVariables false
set_option linter.unusedSimpArgs false
set_option maxHeartbeats 4000000
set_option maxRecDepth 8000


theorem eqOps_c (x y : List OpD) : FnP Tryd.prog 32 [.sl rOp x, .sl rOp y] (.bool (decide (x = y))) := by
  refine FnP.mk Tryd.func32 rfl Tryd.ntmps32 rfl ?_
  intro B a w F hB hfr hS
  have hxl := Sat.lenSl hS (i := 0) rfl
  refine wp_seq ?_
  refine region_seq hS (by kernel_rfl)
      (Chain.cons (Cert.free rfl (o_assign .cb (by rfl))) trivial trivial
      Chain.nil)
      (by kernel_rfl) (by rw [hB]; kernel_rfl) ?_
  clear hS; intro a w F hS
  replace hS := hS.norm [(0, _), (1, _), (4, _)] [(0, _)] ⟨rfl, rfl, rfl, trivial⟩ ⟨rfl, trivial⟩
  obtain ⟨F, hS⟩ := hS
  try dsimp only [RS.sub, SF.sub, CF.sub, csub, Anc.sub, stCells, List.map, List.length_cons, List.length_nil, Nat.reduceAdd, List.drop_succ_cons, List.drop_zero, List.drop_nil, List.take_succ_cons, List.take_zero, List.take_nil, List.cons_append, List.nil_append, zCF, ldSF] at hS
  refine then_n ?_
  refine wp_seq ?_
  refine wp_seq ?_
  refine region_seq hS (by kernel_rfl)
      (Chain.cons (Cert.free rfl (o_move .t (by rfl))) ⟨rfl, trivial⟩ trivial
      (Chain.cons (Cert.free rfl (o_len_sl Tryd.underlying24 .t)) ⟨rfl, trivial⟩ trivial
      (Chain.cons (Cert.free rfl (o_move .t (by rfl))) ⟨rfl, trivial⟩ trivial
      (Chain.cons (Cert.free rfl (o_len_sl Tryd.underlying24 .t)) ⟨rfl, trivial⟩ trivial
      (Chain.cons (Cert.free rfl (o_neq .t .t)) ⟨rfl, rfl, trivial⟩ trivial
      Chain.nil)))))
      (by kernel_rfl) (by rw [hB]; kernel_rfl) ?_
  clear hS; intro a w F hS
  replace hS := hS.norm [(0, _), (1, _), (4, _), (10, _)] [(0, _)] ⟨rfl, rfl, rfl, rfl, trivial⟩ ⟨rfl, trivial⟩
  obtain ⟨F, hS⟩ := hS
  try dsimp only [RS.sub, SF.sub, CF.sub, csub, Anc.sub, stCells, List.map, List.length_cons, List.length_nil, Nat.reduceAdd, List.drop_succ_cons, List.drop_zero, List.drop_nil, List.take_succ_cons, List.take_zero, List.take_nil, List.cons_append, List.nil_append, zCF, ldSF] at hS
  refine then_n ?_
  refine cond_b hS rfl (fun hc0 => ?_) (fun hc0 => ?_)
  · skip
    have hg : false = decide (x = y) := by
      rw [eq_comm, decide_eq_false_iff_not]
      intro h
      subst h
      simp at hc0
    refine wp_seq ?_
    refine region_seq hS (by kernel_rfl)
        (Chain.cons (Cert.free rfl (o_assign .cb (by rfl))) trivial trivial
        Chain.nil)
        (by kernel_rfl) (by rw [hB]; kernel_rfl) ?_
    clear hS; intro a w F hS
    replace hS := hS.norm [(0, _), (1, _), (4, _)] [(0, _)] ⟨rfl, rfl, rfl, trivial⟩ ⟨rfl, trivial⟩
    obtain ⟨F, hS⟩ := hS
    try dsimp only [RS.sub, SF.sub, CF.sub, csub, Anc.sub, stCells, List.map, List.length_cons, List.length_nil, Nat.reduceAdd, List.drop_succ_cons, List.drop_zero, List.drop_nil, List.take_succ_cons, List.take_zero, List.take_nil, List.cons_append, List.nil_append, zCF, ldSF] at hS
    refine then_n ?_
    refine wp_ret ?_
    refine then_r ?_
    refine ret_P hfr hS rfl (.tmp rfl .nil) (.one (.bool hg))
  · skip
    have hl : x.length = y.length := by simp at hc0; omega
    refine wp_skip ?_
    refine then_n ?_
    refine wp_seq ?_
    refine wp_seq ?_
    refine region_seq hS (by kernel_rfl)
        (Chain.cons (Cert.free rfl (o_move .t (by rfl))) ⟨rfl, trivial⟩ trivial
        (Chain.cons (Cert.free rfl (o_len_sl Tryd.underlying24 .t)) ⟨rfl, trivial⟩ trivial
        (Chain.cons (Cert.free rfl (o_move (.ci (by kernel_rfl)) (by rfl))) trivial trivial
        Chain.nil)))
        (by kernel_rfl) (by rw [hB]; kernel_rfl) ?_
    clear hS; intro a w F hS
    replace hS := hS.norm [(0, _), (1, _), (4, _), (12, _), (13, _)] [(0, _)] ⟨rfl, rfl, rfl, rfl, rfl, trivial⟩ ⟨rfl, trivial⟩
    obtain ⟨F, hS⟩ := hS
    try dsimp only [RS.sub, SF.sub, CF.sub, csub, Anc.sub, stCells, List.map, List.length_cons, List.length_nil, Nat.reduceAdd, List.drop_succ_cons, List.drop_zero, List.drop_nil, List.take_succ_cons, List.take_zero, List.take_nil, List.cons_append, List.nil_append, zCF, ldSF] at hS
    refine then_n ?_
    refine wp_block ?_
    replace hS := hS.norm [(0, _), (1, _), (12, _), (13, _)] [(0, _)] ⟨rfl, rfl, rfl, rfl, trivial⟩ ⟨rfl, trivial⟩
    obtain ⟨F, hS⟩ := hS
    refine loop_inv (σ := Nat) (fun s => (⟨[(0, .pv (.sl rOp x)), (1, .pv (.sl rOp y)), (12, .pv (.int .i64 x.length)), (13, .pv (.int .i64 s))], [(0, frame B)]⟩ : En)) (fun s => s ≤ x.length ∧ ∀ j, j < s → Go.Gm.nth x j = Go.Gm.nth y j) (fun s => x.length - s) 0 hS ⟨Nat.zero_le _, fun j hj => absurd hj (Nat.not_lt_zero j)⟩ ?_
    clear hS; intro i a w F hC hS
    try dsimp only at hC
    try dsimp only at hS
    obtain ⟨hi, hq⟩ := hC
    refine wp_seq ?_
    refine region_seq hS (by kernel_rfl)
        (Chain.cons (Cert.free rfl (o_lss .t .t)) ⟨rfl, rfl, trivial⟩ trivial
        Chain.nil)
        (by kernel_rfl) (by rw [hB]; kernel_rfl) ?_
    clear hS; intro a w F hS
    replace hS := hS.norm [(0, _), (1, _), (12, _), (13, _), (14, _)] [(0, _)] ⟨rfl, rfl, rfl, rfl, rfl, trivial⟩ ⟨rfl, trivial⟩
    obtain ⟨F, hS⟩ := hS
    try dsimp only [RS.sub, SF.sub, CF.sub, csub, Anc.sub, stCells, List.map, List.length_cons, List.length_nil, Nat.reduceAdd, List.drop_succ_cons, List.drop_zero, List.drop_nil, List.take_succ_cons, List.take_zero, List.take_nil, List.cons_append, List.nil_append, zCF, ldSF] at hS
    refine then_n ?_
    refine wp_seq ?_
    refine cond_b hS rfl (fun hc1 => ?_) (fun hc1 => ?_)
    · skip
      have hil : i < x.length := by simp at hc1; omega
      refine wp_skip ?_
      refine then_n ?_
      refine wp_seq ?_
      refine wp_block ?_
      refine wp_seq ?_
      refine region_seq hS (by kernel_rfl)
          (Chain.cons (Cert.free rfl (o_move .t (by rfl))) ⟨rfl, trivial⟩ trivial
          (Chain.cons (Cert.free rfl (o_assign .t (by rfl))) ⟨rfl, trivial⟩ trivial
          Chain.nil))
          (by kernel_rfl) (by rw [hB]; kernel_rfl) ?_
      clear hS; intro a w F hS
      replace hS := hS.norm [(0, _), (1, _), (5, _), (12, _), (13, _), (14, _), (15, _)] [(0, _)] ⟨rfl, rfl, rfl, rfl, rfl, rfl, rfl, trivial⟩ ⟨rfl, trivial⟩
      obtain ⟨F, hS⟩ := hS
      try dsimp only [RS.sub, SF.sub, CF.sub, csub, Anc.sub, stCells, List.map, List.length_cons, List.length_nil, Nat.reduceAdd, List.drop_succ_cons, List.drop_zero, List.drop_nil, List.take_succ_cons, List.take_zero, List.take_nil, List.cons_append, List.nil_append, zCF, ldSF] at hS
      refine then_n ?_
      refine wp_seq ?_
      refine region_any (by kernel_rfl) hS (by kernel_rfl)
          (Chain.cons (Cert.free rfl (o_move .t (by rfl))) ⟨rfl, trivial⟩ trivial
          (Chain.cons (Cert.free rfl (o_move .t (by rfl))) ⟨rfl, trivial⟩ trivial
          (Chain.cons (Cert.free rfl (o_indexAddr_sl (sz := 4) (.mk Tryd.underlying24 (by kernel_rfl)) (by intro x; rfl) .t .t (by omega) (by omega))) ⟨rfl, rfl, trivial⟩ trivial
          (Chain.cons (Cert.free rfl (o_load_ref (ag := true) (sz := 4) .t (by kernel_rfl) (by kernel_rfl) (by kernel_rfl))) ⟨rfl, trivial⟩ trivial
          (Chain.cons (Cert.free rfl (o_move .t (by rfl))) ⟨rfl, trivial⟩ trivial
          (Chain.cons (Cert.free rfl (o_move .t (by rfl))) ⟨rfl, trivial⟩ trivial
          (Chain.cons (Cert.free rfl (o_indexAddr_sl (sz := 4) (.mk Tryd.underlying24 (by kernel_rfl)) (by intro x; rfl) .t .t (by omega) (by omega))) ⟨rfl, rfl, trivial⟩ trivial
          (Chain.cons (Cert.free rfl (o_load_ref (ag := true) (sz := 4) .t (by kernel_rfl) (by kernel_rfl) (by kernel_rfl))) ⟨rfl, trivial⟩ trivial
          (Chain.cons (Cert.free rfl (o_neqS (ks := [false, true, true, true]) (by kernel_rfl) .t .t (.bool (.int (.int (.int .nil)))))) ⟨rfl, rfl, trivial⟩ trivial
          Chain.nil)))))))))
          (by kernel_rfl) (by rw [hB]; kernel_rfl) ?_
      clear hS; intro a w F hS
      replace hS := hS.norm [(0, _), (1, _), (5, _), (12, _), (13, _), (14, _), (15, _), (16, _), (17, _), (18, _), (19, _), (20, _), (21, _), (22, _), (23, _), (24, _)] [(0, _)] ⟨rfl, rfl, rfl, rfl, rfl, rfl, rfl, rfl, rfl, rfl, rfl, rfl, rfl, rfl, rfl, rfl, trivial⟩ ⟨rfl, trivial⟩
      obtain ⟨F, hS⟩ := hS
      try dsimp only [RS.sub, SF.sub, CF.sub, csub, Anc.sub, stCells, List.map, List.length_cons, List.length_nil, Nat.reduceAdd, List.drop_succ_cons, List.drop_zero, List.drop_nil, List.take_succ_cons, List.take_zero, List.take_nil, List.cons_append, List.nil_append, zCF, ldSF] at hS
      refine then_n ?_
      refine cond_b hS rfl (fun hc2 => ?_) (fun hc2 => ?_)
      · skip
        have hg : false = decide (x = y) := by
          rw [eq_comm, decide_eq_false_iff_not]
          intro h
          subst h
          simp at hc2
        refine wp_seq ?_
        refine region_seq hS (by kernel_rfl)
            (Chain.cons (Cert.free rfl (o_assign .cb (by rfl))) trivial trivial
            Chain.nil)
            (by kernel_rfl) (by rw [hB]; kernel_rfl) ?_
        clear hS; intro a w F hS
        replace hS := hS.norm [(0, _), (1, _), (4, _), (5, _), (12, _), (13, _), (14, _), (15, _), (16, _), (17, _), (18, _), (19, _), (20, _), (21, _), (22, _), (23, _), (24, _)] [(0, _)] ⟨rfl, rfl, rfl, rfl, rfl, rfl, rfl, rfl, rfl, rfl, rfl, rfl, rfl, rfl, rfl, rfl, rfl, trivial⟩ ⟨rfl, trivial⟩
        obtain ⟨F, hS⟩ := hS
        try dsimp only [RS.sub, SF.sub, CF.sub, csub, Anc.sub, stCells, List.map, List.length_cons, List.length_nil, Nat.reduceAdd, List.drop_succ_cons, List.drop_zero, List.drop_nil, List.take_succ_cons, List.take_zero, List.take_nil, List.cons_append, List.nil_append, zCF, ldSF] at hS
        refine then_n ?_
        refine wp_ret ?_
        refine block_r ?_
        refine then_r ?_
        refine then_r ?_
        refine block_r ?_
        refine then_r ?_
        refine ret_P hfr hS rfl (.tmp rfl .nil) (.one (.bool hg))
      · skip
        rw [Int.toNat_natCast] at hc2
        have hqi : Go.Gm.nth x i = Go.Gm.nth y i := opD_eq hc2
        refine wp_skip ?_
        refine block_n ?_
        refine then_n ?_
        refine region_seq hS (by kernel_rfl)
            (Chain.cons (Cert.free rfl (o_add .t (.ci (by kernel_rfl)))) ⟨rfl, trivial⟩ trivial
            (Chain.cons (Cert.free rfl (o_move .t (by rfl))) ⟨rfl, trivial⟩ trivial
            Chain.nil))
            (by kernel_rfl) (by rw [hB]; kernel_rfl) ?_
        clear hS; intro a w F hS
        replace hS := hS.norm [(0, _), (1, _), (5, _), (12, _), (13, _), (14, _), (15, _), (16, _), (17, _), (18, _), (19, _), (20, _), (21, _), (22, _), (23, _), (24, _), (25, _)] [(0, _)] ⟨rfl, rfl, rfl, rfl, rfl, rfl, rfl, rfl, rfl, rfl, rfl, rfl, rfl, rfl, rfl, rfl, rfl, trivial⟩ ⟨rfl, trivial⟩
        obtain ⟨F, hS⟩ := hS
        try dsimp only [RS.sub, SF.sub, CF.sub, csub, Anc.sub, stCells, List.map, List.length_cons, List.length_nil, Nat.reduceAdd, List.drop_succ_cons, List.drop_zero, List.drop_nil, List.take_succ_cons, List.take_zero, List.take_nil, List.cons_append, List.nil_append, zCF, ldSF] at hS
        refine then_n ?_
        replace hS := hS.ent (i := 13) (s' := .pv (.int .i64 ((i + 1 : Nat) : Int))) rfl (.int (wrap_succ (by omega)))
        replace hS := hS.norm [(0, _), (1, _), (12, _), (13, _)] [(0, _)] ⟨rfl, rfl, rfl, rfl, trivial⟩ ⟨rfl, trivial⟩
        obtain ⟨F, hS⟩ := hS
        exact ⟨i + 1, F, ⟨by omega, fun j hj => by rcases Nat.lt_or_eq_of_le (Nat.le_of_lt_succ hj) with h | h; exact hq j h; rw [h]; exact hqi⟩, hS, by omega⟩
    · skip
      have hg : true = decide (x = y) := by
        rw [eq_comm, decide_eq_true_eq]
        exact list_same hl fun j hj => hq j (by simp at hc1; omega)
      refine wp_exit ?_
      refine then_x ?_
      refine then_x ?_
      refine block_x ?_
      refine then_n ?_
      refine wp_seq ?_
      refine region_seq hS (by kernel_rfl)
          (Chain.cons (Cert.free rfl (o_assign .cb (by rfl))) trivial trivial
          Chain.nil)
          (by kernel_rfl) (by rw [hB]; kernel_rfl) ?_
      clear hS; intro a w F hS
      replace hS := hS.norm [(4, _)] [(0, _)] ⟨rfl, trivial⟩ ⟨rfl, trivial⟩
      obtain ⟨F, hS⟩ := hS
      try dsimp only [RS.sub, SF.sub, CF.sub, csub, Anc.sub, stCells, List.map, List.length_cons, List.length_nil, Nat.reduceAdd, List.drop_succ_cons, List.drop_zero, List.drop_nil, List.take_succ_cons, List.take_zero, List.take_nil, List.cons_append, List.nil_append, zCF, ldSF] at hS
      refine then_n ?_
      refine wp_ret ?_
      refine ret_P hfr hS rfl (.tmp rfl .nil) (.one (.bool hg))

theorem opSame_c (x y : List OpD) : FnP Tryd.prog 16 [.sl rOp x, .sl rOp y] (.bool (decide (x = y))) := by
  refine FnP.mk Tryd.func16 rfl Tryd.ntmps16 rfl ?_
  intro B a w F hB hfr hS
  refine wp_seq ?_
  refine region_seq hS (by kernel_rfl)
      (Chain.cons (Cert.free rfl (o_assign .cb (by rfl))) trivial trivial
      Chain.nil)
      (by kernel_rfl) (by rw [hB]; kernel_rfl) ?_
  clear hS; intro a w F hS
  replace hS := hS.norm [(0, _), (1, _), (4, _)] [(0, _)] ⟨rfl, rfl, rfl, trivial⟩ ⟨rfl, trivial⟩
  obtain ⟨F, hS⟩ := hS
  try dsimp only [RS.sub, SF.sub, CF.sub, csub, Anc.sub, stCells, List.map, List.length_cons, List.length_nil, Nat.reduceAdd, List.drop_succ_cons, List.drop_zero, List.drop_nil, List.take_succ_cons, List.take_zero, List.take_nil, List.cons_append, List.nil_append, zCF, ldSF] at hS
  refine then_n ?_
  refine wp_seq ?_
  refine region_seq hS (by kernel_rfl)
      (Chain.cons (Cert.free rfl (o_move .t (by rfl))) ⟨rfl, trivial⟩ trivial
      (Chain.cons (Cert.free rfl (o_move .t (by rfl))) ⟨rfl, trivial⟩ trivial
      (Chain.cons (Cert.free rfl (o_callP (eqOps_c x y) Tryd.func32 rfl (by kernel_rfl) (Args.two .t .t))) ⟨rfl, rfl, trivial⟩ trivial
      (Chain.cons (Cert.free rfl (o_assign .t (by rfl))) ⟨rfl, trivial⟩ trivial
      Chain.nil))))
      (by kernel_rfl) (by rw [hB]; kernel_rfl) ?_
  clear hS; intro a w F hS
  replace hS := hS.norm [(4, _)] [(0, _)] ⟨rfl, trivial⟩ ⟨rfl, trivial⟩
  obtain ⟨F, hS⟩ := hS
  try dsimp only [RS.sub, SF.sub, CF.sub, csub, Anc.sub, stCells, List.map, List.length_cons, List.length_nil, Nat.reduceAdd, List.drop_succ_cons, List.drop_zero, List.drop_nil, List.take_succ_cons, List.take_zero, List.take_nil, List.cons_append, List.nil_append, zCF, ldSF] at hS
  refine then_n ?_
  refine wp_ret ?_
  refine ret_P hfr hS rfl (.tmp rfl .nil) (.one .refl)

theorem opLives_c  : FnP Tryd.prog 7 [] (.bool true) := by
  refine FnP.mk Tryd.func7 rfl Tryd.ntmps7 rfl ?_
  intro B a w F hB hfr hS
  refine wp_seq ?_
  refine region_seq hS (by kernel_rfl)
      (Chain.cons (Cert.free rfl (o_assign .cb (by rfl))) trivial trivial
      Chain.nil)
      (by kernel_rfl) (by rw [hB]; kernel_rfl) ?_
  clear hS; intro a w F hS
  replace hS := hS.norm [(0, _)] [(0, _)] ⟨rfl, trivial⟩ ⟨rfl, trivial⟩
  obtain ⟨F, hS⟩ := hS
  try dsimp only [RS.sub, SF.sub, CF.sub, csub, Anc.sub, stCells, List.map, List.length_cons, List.length_nil, Nat.reduceAdd, List.drop_succ_cons, List.drop_zero, List.drop_nil, List.take_succ_cons, List.take_zero, List.take_nil, List.cons_append, List.nil_append, zCF, ldSF] at hS
  refine then_n ?_
  refine wp_seq ?_
  refine region_seq hS (by kernel_rfl)
      (Chain.cons (Cert.free rfl (o_callP (opRead_c [119, 53] (by decide)) Tryd.func8 rfl (by kernel_rfl) (Args.one (.cs (by kernel_rfl))))) trivial trivial
      (Chain.cons (Cert.free rfl (o_move .t (by rfl))) ⟨rfl, trivial⟩ trivial
      (Chain.cons (Cert.free rfl (o_extract .t rfl)) ⟨rfl, trivial⟩ trivial
      (Chain.cons (Cert.free rfl (o_extract .t rfl)) ⟨rfl, trivial⟩ trivial
      (Chain.cons (Cert.free rfl (o_alloc (zs := [.bool false, .int .i64 0, .int .i64 0, .int .i64 0]) 101 (by kernel_rfl))) trivial trivial
      (Chain.cons (Cert.free rfl (o_storeA (sz := 4) 101 .same (.conv .t .agg) (by kernel_rfl) (by kernel_rfl) (by kernel_rfl))) ⟨rfl, rfl, trivial⟩ ⟨rfl, trivial⟩
      (Chain.cons (Cert.free rfl (o_assign .t (by rfl))) ⟨rfl, trivial⟩ trivial
      Chain.nil)))))))
      (by kernel_rfl) (by rw [hB]; kernel_rfl) ?_
  clear hS; intro a w F hS
  replace hS := hS.sub
  replace hS := hS.norm [(0, _), (1, _), (2, _)] [(0, _), (101, _)] ⟨rfl, rfl, rfl, trivial⟩ ⟨rfl, rfl, trivial⟩
  obtain ⟨F, hS⟩ := hS
  try dsimp only [RS.sub, SF.sub, CF.sub, csub, Anc.sub, stCells, List.map, List.length_cons, List.length_nil, Nat.reduceAdd, List.drop_succ_cons, List.drop_zero, List.drop_nil, List.take_succ_cons, List.take_zero, List.take_nil, List.cons_append, List.nil_append, zCF, ldSF] at hS
  generalize Act.tau a 1 = v1 at hS
  refine then_n ?_
  refine wp_seq ?_
  refine region_seq hS (by kernel_rfl)
      (Chain.cons (Cert.free rfl (o_callP (opRead_c [114, 53, 64, 48] (by decide)) Tryd.func8 rfl (by kernel_rfl) (Args.one (.cs (by kernel_rfl))))) trivial trivial
      (Chain.cons (Cert.free rfl (o_move .t (by rfl))) ⟨rfl, trivial⟩ trivial
      (Chain.cons (Cert.free rfl (o_extract .t rfl)) ⟨rfl, trivial⟩ trivial
      (Chain.cons (Cert.free rfl (o_extract .t rfl)) ⟨rfl, trivial⟩ trivial
      (Chain.cons (Cert.free rfl (o_alloc (zs := [.bool false, .int .i64 0, .int .i64 0, .int .i64 0]) 102 (by kernel_rfl))) trivial trivial
      (Chain.cons (Cert.free rfl (o_storeA (sz := 4) 102 .same (.conv .t .agg) (by kernel_rfl) (by kernel_rfl) (by kernel_rfl))) ⟨rfl, rfl, trivial⟩ ⟨rfl, trivial⟩
      (Chain.cons (Cert.free rfl (o_assign .t (by rfl))) ⟨rfl, trivial⟩ trivial
      Chain.nil)))))))
      (by kernel_rfl) (by rw [hB]; kernel_rfl) ?_
  clear hS; intro a w F hS
  replace hS := hS.sub
  replace hS := hS.norm [(0, _), (1, _), (2, _), (3, _), (4, _)] [(0, _), (101, _), (102, _)] ⟨rfl, rfl, rfl, rfl, rfl, trivial⟩ ⟨rfl, rfl, rfl, trivial⟩
  obtain ⟨F, hS⟩ := hS
  try dsimp only [RS.sub, SF.sub, CF.sub, csub, Anc.sub, stCells, List.map, List.length_cons, List.length_nil, Nat.reduceAdd, List.drop_succ_cons, List.drop_zero, List.drop_nil, List.take_succ_cons, List.take_zero, List.take_nil, List.cons_append, List.nil_append, zCF, ldSF] at hS
  generalize Act.tau a 3 = v3 at hS
  refine then_n ?_
  refine wp_seq ?_
  refine region_seq hS (by kernel_rfl)
      (Chain.cons (Cert.free rfl (o_callP (opRead_c [114, 53, 64, 51, 46, 50] (by decide)) Tryd.func8 rfl (by kernel_rfl) (Args.one (.cs (by kernel_rfl))))) trivial trivial
      (Chain.cons (Cert.free rfl (o_move .t (by rfl))) ⟨rfl, trivial⟩ trivial
      (Chain.cons (Cert.free rfl (o_extract .t rfl)) ⟨rfl, trivial⟩ trivial
      (Chain.cons (Cert.free rfl (o_extract .t rfl)) ⟨rfl, trivial⟩ trivial
      (Chain.cons (Cert.free rfl (o_alloc (zs := [.bool false, .int .i64 0, .int .i64 0, .int .i64 0]) 103 (by kernel_rfl))) trivial trivial
      (Chain.cons (Cert.free rfl (o_storeA (sz := 4) 103 .same (.conv .t .agg) (by kernel_rfl) (by kernel_rfl) (by kernel_rfl))) ⟨rfl, rfl, trivial⟩ ⟨rfl, trivial⟩
      (Chain.cons (Cert.free rfl (o_assign .t (by rfl))) ⟨rfl, trivial⟩ trivial
      Chain.nil)))))))
      (by kernel_rfl) (by rw [hB]; kernel_rfl) ?_
  clear hS; intro a w F hS
  replace hS := hS.sub
  replace hS := hS.norm [(0, _), (1, _), (2, _), (3, _), (4, _), (5, _), (6, _)] [(0, _), (101, _), (102, _), (103, _)] ⟨rfl, rfl, rfl, rfl, rfl, rfl, rfl, trivial⟩ ⟨rfl, rfl, rfl, rfl, trivial⟩
  obtain ⟨F, hS⟩ := hS
  try dsimp only [RS.sub, SF.sub, CF.sub, csub, Anc.sub, stCells, List.map, List.length_cons, List.length_nil, Nat.reduceAdd, List.drop_succ_cons, List.drop_zero, List.drop_nil, List.take_succ_cons, List.take_zero, List.take_nil, List.cons_append, List.nil_append, zCF, ldSF] at hS
  generalize Act.tau a 5 = v5 at hS
  refine then_n ?_
  refine wp_seq ?_
  refine region_seq hS (by kernel_rfl)
      (Chain.cons (Cert.free rfl (o_callP (opRead_c [114, 53, 64, 48, 46, 49] (by decide)) Tryd.func8 rfl (by kernel_rfl) (Args.one (.cs (by kernel_rfl))))) trivial trivial
      (Chain.cons (Cert.free rfl (o_move .t (by rfl))) ⟨rfl, trivial⟩ trivial
      (Chain.cons (Cert.free rfl (o_extract .t rfl)) ⟨rfl, trivial⟩ trivial
      (Chain.cons (Cert.free rfl (o_extract .t rfl)) ⟨rfl, trivial⟩ trivial
      (Chain.cons (Cert.free rfl (o_alloc (zs := [.bool false, .int .i64 0, .int .i64 0, .int .i64 0]) 104 (by kernel_rfl))) trivial trivial
      (Chain.cons (Cert.free rfl (o_storeA (sz := 4) 104 .same (.conv .t .agg) (by kernel_rfl) (by kernel_rfl) (by kernel_rfl))) ⟨rfl, rfl, trivial⟩ ⟨rfl, trivial⟩
      (Chain.cons (Cert.free rfl (o_assign .t (by rfl))) ⟨rfl, trivial⟩ trivial
      Chain.nil)))))))
      (by kernel_rfl) (by rw [hB]; kernel_rfl) ?_
  clear hS; intro a w F hS
  replace hS := hS.sub
  replace hS := hS.norm [(0, _), (1, _), (2, _), (3, _), (4, _), (5, _), (6, _), (8, _)] [(0, _), (101, _), (102, _), (103, _), (104, _)] ⟨rfl, rfl, rfl, rfl, rfl, rfl, rfl, rfl, trivial⟩ ⟨rfl, rfl, rfl, rfl, rfl, trivial⟩
  obtain ⟨F, hS⟩ := hS
  try dsimp only [RS.sub, SF.sub, CF.sub, csub, Anc.sub, stCells, List.map, List.length_cons, List.length_nil, Nat.reduceAdd, List.drop_succ_cons, List.drop_zero, List.drop_nil, List.take_succ_cons, List.take_zero, List.take_nil, List.cons_append, List.nil_append, zCF, ldSF] at hS
  generalize Act.tau a 7 = v7 at hS
  refine then_n ?_
  refine wp_seq ?_
  refine region_seq hS (by kernel_rfl)
      (Chain.cons (Cert.free rfl (o_callP (opRead_c [114, 53, 64, 51] (by decide)) Tryd.func8 rfl (by kernel_rfl) (Args.one (.cs (by kernel_rfl))))) trivial trivial
      (Chain.cons (Cert.free rfl (o_move .t (by rfl))) ⟨rfl, trivial⟩ trivial
      (Chain.cons (Cert.free rfl (o_extract .t rfl)) ⟨rfl, trivial⟩ trivial
      (Chain.cons (Cert.free rfl (o_extract .t rfl)) ⟨rfl, trivial⟩ trivial
      (Chain.cons (Cert.free rfl (o_alloc (zs := [.bool false, .int .i64 0, .int .i64 0, .int .i64 0]) 105 (by kernel_rfl))) trivial trivial
      (Chain.cons (Cert.free rfl (o_storeA (sz := 4) 105 .same (.conv .t .agg) (by kernel_rfl) (by kernel_rfl) (by kernel_rfl))) ⟨rfl, rfl, trivial⟩ ⟨rfl, trivial⟩
      (Chain.cons (Cert.free rfl (o_assign .t (by rfl))) ⟨rfl, trivial⟩ trivial
      Chain.nil)))))))
      (by kernel_rfl) (by rw [hB]; kernel_rfl) ?_
  clear hS; intro a w F hS
  replace hS := hS.sub
  replace hS := hS.norm [(0, _), (1, _), (2, _), (3, _), (4, _), (5, _), (6, _), (8, _), (10, _)] [(0, _), (101, _), (102, _), (103, _), (104, _), (105, _)] ⟨rfl, rfl, rfl, rfl, rfl, rfl, rfl, rfl, rfl, trivial⟩ ⟨rfl, rfl, rfl, rfl, rfl, rfl, trivial⟩
  obtain ⟨F, hS⟩ := hS
  try dsimp only [RS.sub, SF.sub, CF.sub, csub, Anc.sub, stCells, List.map, List.length_cons, List.length_nil, Nat.reduceAdd, List.drop_succ_cons, List.drop_zero, List.drop_nil, List.take_succ_cons, List.take_zero, List.take_nil, List.cons_append, List.nil_append, zCF, ldSF] at hS
  generalize Act.tau a 9 = v9 at hS
  refine then_n ?_
  refine wp_seq ?_
  refine region_seq hS (by kernel_rfl)
      (Chain.cons (Cert.free rfl (o_callP (opRead_c [114, 53, 64, 48, 51, 46, 49] (by decide)) Tryd.func8 rfl (by kernel_rfl) (Args.one (.cs (by kernel_rfl))))) trivial trivial
      (Chain.cons (Cert.free rfl (o_move .t (by rfl))) ⟨rfl, trivial⟩ trivial
      (Chain.cons (Cert.free rfl (o_extract .t rfl)) ⟨rfl, trivial⟩ trivial
      (Chain.cons (Cert.free rfl (o_extract .t rfl)) ⟨rfl, trivial⟩ trivial
      (Chain.cons (Cert.free rfl (o_alloc (zs := [.bool false, .int .i64 0, .int .i64 0, .int .i64 0]) 106 (by kernel_rfl))) trivial trivial
      (Chain.cons (Cert.free rfl (o_storeA (sz := 4) 106 .same (.conv .t .agg) (by kernel_rfl) (by kernel_rfl) (by kernel_rfl))) ⟨rfl, rfl, trivial⟩ ⟨rfl, trivial⟩
      (Chain.cons (Cert.free rfl (o_assign .t (by rfl))) ⟨rfl, trivial⟩ trivial
      Chain.nil)))))))
      (by kernel_rfl) (by rw [hB]; kernel_rfl) ?_
  clear hS; intro a w F hS
  replace hS := hS.sub
  replace hS := hS.norm [(0, _), (1, _), (2, _), (3, _), (4, _), (5, _), (6, _), (8, _), (10, _), (12, _)] [(0, _), (101, _), (102, _), (103, _), (104, _), (105, _), (106, _)] ⟨rfl, rfl, rfl, rfl, rfl, rfl, rfl, rfl, rfl, rfl, trivial⟩ ⟨rfl, rfl, rfl, rfl, rfl, rfl, rfl, trivial⟩
  obtain ⟨F, hS⟩ := hS
  try dsimp only [RS.sub, SF.sub, CF.sub, csub, Anc.sub, stCells, List.map, List.length_cons, List.length_nil, Nat.reduceAdd, List.drop_succ_cons, List.drop_zero, List.drop_nil, List.take_succ_cons, List.take_zero, List.take_nil, List.cons_append, List.nil_append, zCF, ldSF] at hS
  generalize Act.tau a 11 = v11 at hS
  refine then_n ?_
  refine wp_seq ?_
  refine region_seq hS (by kernel_rfl)
      (Chain.cons (Cert.free rfl (o_callP (opRead_c [119, 48] (by decide)) Tryd.func8 rfl (by kernel_rfl) (Args.one (.cs (by kernel_rfl))))) trivial trivial
      (Chain.cons (Cert.free rfl (o_move .t (by rfl))) ⟨rfl, trivial⟩ trivial
      (Chain.cons (Cert.free rfl (o_extract .t rfl)) ⟨rfl, trivial⟩ trivial
      (Chain.cons (Cert.free rfl (o_extract .t rfl)) ⟨rfl, trivial⟩ trivial
      (Chain.cons (Cert.free rfl (o_alloc (zs := [.bool false, .int .i64 0, .int .i64 0, .int .i64 0]) 107 (by kernel_rfl))) trivial trivial
      (Chain.cons (Cert.free rfl (o_storeA (sz := 4) 107 .same (.conv .t .agg) (by kernel_rfl) (by kernel_rfl) (by kernel_rfl))) ⟨rfl, rfl, trivial⟩ ⟨rfl, trivial⟩
      (Chain.cons (Cert.free rfl (o_assign .t (by rfl))) ⟨rfl, trivial⟩ trivial
      Chain.nil)))))))
      (by kernel_rfl) (by rw [hB]; kernel_rfl) ?_
  clear hS; intro a w F hS
  replace hS := hS.sub
  replace hS := hS.norm [(0, _), (1, _), (2, _), (3, _), (4, _), (5, _), (6, _), (8, _), (10, _), (12, _), (14, _)] [(0, _), (101, _), (102, _), (103, _), (104, _), (105, _), (106, _), (107, _)] ⟨rfl, rfl, rfl, rfl, rfl, rfl, rfl, rfl, rfl, rfl, rfl, trivial⟩ ⟨rfl, rfl, rfl, rfl, rfl, rfl, rfl, rfl, trivial⟩
  obtain ⟨F, hS⟩ := hS
  try dsimp only [RS.sub, SF.sub, CF.sub, csub, Anc.sub, stCells, List.map, List.length_cons, List.length_nil, Nat.reduceAdd, List.drop_succ_cons, List.drop_zero, List.drop_nil, List.take_succ_cons, List.take_zero, List.take_nil, List.cons_append, List.nil_append, zCF, ldSF] at hS
  generalize Act.tau a 13 = v13 at hS
  refine then_n ?_
  refine wp_seq ?_
  refine region_seq hS (by kernel_rfl)
      (Chain.cons (Cert.free rfl (o_callP (opRead_c [114, 48, 64, 51, 46, 49] (by decide)) Tryd.func8 rfl (by kernel_rfl) (Args.one (.cs (by kernel_rfl))))) trivial trivial
      (Chain.cons (Cert.free rfl (o_move .t (by rfl))) ⟨rfl, trivial⟩ trivial
      (Chain.cons (Cert.free rfl (o_extract .t rfl)) ⟨rfl, trivial⟩ trivial
      (Chain.cons (Cert.free rfl (o_extract .t rfl)) ⟨rfl, trivial⟩ trivial
      (Chain.cons (Cert.free rfl (o_alloc (zs := [.bool false, .int .i64 0, .int .i64 0, .int .i64 0]) 108 (by kernel_rfl))) trivial trivial
      (Chain.cons (Cert.free rfl (o_storeA (sz := 4) 108 .same (.conv .t .agg) (by kernel_rfl) (by kernel_rfl) (by kernel_rfl))) ⟨rfl, rfl, trivial⟩ ⟨rfl, trivial⟩
      (Chain.cons (Cert.free rfl (o_assign .t (by rfl))) ⟨rfl, trivial⟩ trivial
      Chain.nil)))))))
      (by kernel_rfl) (by rw [hB]; kernel_rfl) ?_
  clear hS; intro a w F hS
  replace hS := hS.sub
  replace hS := hS.norm [(0, _), (1, _), (2, _), (3, _), (4, _), (5, _), (6, _), (8, _), (10, _), (12, _), (14, _), (16, _)] [(0, _), (101, _), (102, _), (103, _), (104, _), (105, _), (106, _), (107, _), (108, _)] ⟨rfl, rfl, rfl, rfl, rfl, rfl, rfl, rfl, rfl, rfl, rfl, rfl, trivial⟩ ⟨rfl, rfl, rfl, rfl, rfl, rfl, rfl, rfl, rfl, trivial⟩
  obtain ⟨F, hS⟩ := hS
  try dsimp only [RS.sub, SF.sub, CF.sub, csub, Anc.sub, stCells, List.map, List.length_cons, List.length_nil, Nat.reduceAdd, List.drop_succ_cons, List.drop_zero, List.drop_nil, List.take_succ_cons, List.take_zero, List.take_nil, List.cons_append, List.nil_append, zCF, ldSF] at hS
  generalize Act.tau a 15 = v15 at hS
  refine then_n ?_
  refine wp_seq ?_
  refine region_seq hS (by kernel_rfl)
      (Chain.cons (Cert.free rfl (o_callP (opRead_c [114, 53, 64, 51, 46, 48] (by decide)) Tryd.func8 rfl (by kernel_rfl) (Args.one (.cs (by kernel_rfl))))) trivial trivial
      (Chain.cons (Cert.free rfl (o_move .t (by rfl))) ⟨rfl, trivial⟩ trivial
      (Chain.cons (Cert.free rfl (o_extract .t rfl)) ⟨rfl, trivial⟩ trivial
      (Chain.cons (Cert.free rfl (o_extract .t rfl)) ⟨rfl, trivial⟩ trivial
      (Chain.cons (Cert.free rfl (o_alloc (zs := [.bool false, .int .i64 0, .int .i64 0, .int .i64 0]) 109 (by kernel_rfl))) trivial trivial
      (Chain.cons (Cert.free rfl (o_storeA (sz := 4) 109 .same (.conv .t .agg) (by kernel_rfl) (by kernel_rfl) (by kernel_rfl))) ⟨rfl, rfl, trivial⟩ ⟨rfl, trivial⟩
      (Chain.cons (Cert.free rfl (o_assign .t (by rfl))) ⟨rfl, trivial⟩ trivial
      Chain.nil)))))))
      (by kernel_rfl) (by rw [hB]; kernel_rfl) ?_
  clear hS; intro a w F hS
  replace hS := hS.sub
  replace hS := hS.norm [(0, _), (1, _), (2, _), (3, _), (4, _), (5, _), (6, _), (8, _), (10, _), (12, _), (14, _), (16, _), (18, _)] [(0, _), (101, _), (102, _), (103, _), (104, _), (105, _), (106, _), (107, _), (108, _), (109, _)] ⟨rfl, rfl, rfl, rfl, rfl, rfl, rfl, rfl, rfl, rfl, rfl, rfl, rfl, trivial⟩ ⟨rfl, rfl, rfl, rfl, rfl, rfl, rfl, rfl, rfl, rfl, trivial⟩
  obtain ⟨F, hS⟩ := hS
  try dsimp only [RS.sub, SF.sub, CF.sub, csub, Anc.sub, stCells, List.map, List.length_cons, List.length_nil, Nat.reduceAdd, List.drop_succ_cons, List.drop_zero, List.drop_nil, List.take_succ_cons, List.take_zero, List.take_nil, List.cons_append, List.nil_append, zCF, ldSF] at hS
  generalize Act.tau a 17 = v17 at hS
  refine then_n ?_
  refine wp_seq ?_
  refine region_seq hS (by kernel_rfl)
      (Chain.cons (Cert.free rfl (o_load (ag := true) (sz := 4) 101 .is (by kernel_rfl) (by kernel_rfl) (by kernel_rfl) (by rfl))) ⟨rfl, trivial⟩ ⟨rfl, trivial⟩
      (Chain.cons (Cert.free rfl (o_build (r := [(1, _)]) (zs := [.bool false, .int .i64 0, .int .i64 0, .int .i64 0]) (pl := [(0, 1), (1, 1), (2, 1), (3, 1)]) (by kernel_rfl) (by kernel_rfl) (.one rfl (.ci (by kernel_rfl)) one_int (by kernel_rfl) .nil) (by rfl))) trivial trivial
      (Chain.cons (Cert.free rfl (o_eqlS (ks := [false, true, true, true]) (by kernel_rfl) .t .t (.bool (.int (.int (.int .nil)))))) ⟨rfl, rfl, trivial⟩ trivial
      (Chain.cons (Cert.free rfl (o_move .t (by rfl))) ⟨rfl, trivial⟩ trivial
      (Chain.cons (Cert.cond rfl rfl (fun h => o_move .t (by rfl))) ⟨rfl, rfl, trivial⟩ trivial
      (Chain.cons (Cert.cond rfl rfl (fun h => o_eql (.w h) (.ci (by kernel_rfl)))) ⟨rfl, rfl, trivial⟩ trivial
      (Chain.cons (Cert.free rfl (o_and2 .t .t)) ⟨rfl, rfl, trivial⟩ trivial
      (Chain.cons (Cert.free rfl (o_move .t (by rfl))) ⟨rfl, trivial⟩ trivial
      (Chain.cons (Cert.cond rfl rfl (fun h => o_load (ag := true) (sz := 4) 102 .is (by kernel_rfl) (by kernel_rfl) (by kernel_rfl) (by rfl))) ⟨rfl, rfl, trivial⟩ ⟨rfl, trivial⟩
      (Chain.cons (Cert.cond rfl rfl (fun h => o_build (r := [(0, _), (1, _)]) (zs := [.bool false, .int .i64 0, .int .i64 0, .int .i64 0]) (pl := [(0, 1), (1, 1), (2, 1), (3, 1)]) (by kernel_rfl) (by kernel_rfl) (.one rfl .cb one_bool (by kernel_rfl) (.one rfl (.ci (by kernel_rfl)) one_int (by kernel_rfl) .nil)) (by rfl))) ⟨rfl, trivial⟩ trivial
      (Chain.cons (Cert.cond rfl rfl (fun h => o_eqlS (ks := [false, true, true, true]) (by kernel_rfl) (.w h) (.w h) (.bool (.int (.int (.int .nil)))))) ⟨rfl, rfl, rfl, trivial⟩ trivial
      (Chain.cons (Cert.free rfl (o_and2 .t .t)) ⟨rfl, rfl, trivial⟩ trivial
      (Chain.cons (Cert.free rfl (o_move .t (by rfl))) ⟨rfl, trivial⟩ trivial
      (Chain.cons (Cert.cond rfl rfl (fun h => o_move .t (by rfl))) ⟨rfl, rfl, trivial⟩ trivial
      (Chain.cons (Cert.cond rfl rfl (fun h => o_eql (.w h) (.ci (by kernel_rfl)))) ⟨rfl, rfl, trivial⟩ trivial
      (Chain.cons (Cert.free rfl (o_and2 .t .t)) ⟨rfl, rfl, trivial⟩ trivial
      (Chain.cons (Cert.free rfl (o_move .t (by rfl))) ⟨rfl, trivial⟩ trivial
      (Chain.cons (Cert.cond rfl rfl (fun h => o_load (ag := true) (sz := 4) 103 .is (by kernel_rfl) (by kernel_rfl) (by kernel_rfl) (by rfl))) ⟨rfl, rfl, trivial⟩ ⟨rfl, trivial⟩
      (Chain.cons (Cert.cond rfl rfl (fun h => o_build (r := [(0, _), (1, _), (2, _), (3, _)]) (zs := [.bool false, .int .i64 0, .int .i64 0, .int .i64 0]) (pl := [(0, 1), (1, 1), (2, 1), (3, 1)]) (by kernel_rfl) (by kernel_rfl) (.one rfl .cb one_bool (by kernel_rfl) (.one rfl (.ci (by kernel_rfl)) one_int (by kernel_rfl) (.one rfl (.ci (by kernel_rfl)) one_int (by kernel_rfl) (.one rfl (.ci (by kernel_rfl)) one_int (by kernel_rfl) .nil)))) (by rfl))) ⟨rfl, trivial⟩ trivial
      (Chain.cons (Cert.cond rfl rfl (fun h => o_eqlS (ks := [false, true, true, true]) (by kernel_rfl) (.w h) (.w h) (.bool (.int (.int (.int .nil)))))) ⟨rfl, rfl, rfl, trivial⟩ trivial
      (Chain.cons (Cert.free rfl (o_and2 .t .t)) ⟨rfl, rfl, trivial⟩ trivial
      (Chain.cons (Cert.free rfl (o_move .t (by rfl))) ⟨rfl, trivial⟩ trivial
      (Chain.cons (Cert.cond rfl rfl (fun h => o_move .t (by rfl))) ⟨rfl, rfl, trivial⟩ trivial
      (Chain.cons (Cert.cond rfl rfl (fun h => o_eql (.w h) (.ci (by kernel_rfl)))) ⟨rfl, rfl, trivial⟩ trivial
      (Chain.cons (Cert.free rfl (o_and2 .t .t)) ⟨rfl, rfl, trivial⟩ trivial
      (Chain.cons (Cert.free rfl (o_move .t (by rfl))) ⟨rfl, trivial⟩ trivial
      (Chain.cons (Cert.cond rfl rfl (fun h => o_move .t (by rfl))) ⟨rfl, rfl, trivial⟩ trivial
      (Chain.cons (Cert.cond rfl rfl (fun h => o_eql (.w h) (.ci (by kernel_rfl)))) ⟨rfl, rfl, trivial⟩ trivial
      (Chain.cons (Cert.free rfl (o_and2 .t .t)) ⟨rfl, rfl, trivial⟩ trivial
      (Chain.cons (Cert.free rfl (o_move .t (by rfl))) ⟨rfl, trivial⟩ trivial
      (Chain.cons (Cert.cond rfl rfl (fun h => o_move .t (by rfl))) ⟨rfl, rfl, trivial⟩ trivial
      (Chain.cons (Cert.cond rfl rfl (fun h => o_eql (.w h) (.ci (by kernel_rfl)))) ⟨rfl, rfl, trivial⟩ trivial
      (Chain.cons (Cert.free rfl (o_and2 .t .t)) ⟨rfl, rfl, trivial⟩ trivial
      (Chain.cons (Cert.free rfl (o_move .t (by rfl))) ⟨rfl, trivial⟩ trivial
      (Chain.cons (Cert.cond rfl rfl (fun h => o_move .t (by rfl))) ⟨rfl, rfl, trivial⟩ trivial
      (Chain.cons (Cert.cond rfl rfl (fun h => o_eql (.w h) (.ci (by kernel_rfl)))) ⟨rfl, rfl, trivial⟩ trivial
      (Chain.cons (Cert.free rfl (o_and2 .t .t)) ⟨rfl, rfl, trivial⟩ trivial
      (Chain.cons (Cert.free rfl (o_move .t (by rfl))) ⟨rfl, trivial⟩ trivial
      (Chain.cons (Cert.cond rfl rfl (fun h => o_move .t (by rfl))) ⟨rfl, rfl, trivial⟩ trivial
      (Chain.cons (Cert.cond rfl rfl (fun h => o_eql (.w h) (.ci (by kernel_rfl)))) ⟨rfl, rfl, trivial⟩ trivial
      (Chain.cons (Cert.free rfl (o_and2 .t .t)) ⟨rfl, rfl, trivial⟩ trivial
      (Chain.cons (Cert.free rfl (o_move .t (by rfl))) ⟨rfl, trivial⟩ trivial
      (Chain.cons (Cert.cond rfl rfl (fun h => o_move .t (by rfl))) ⟨rfl, rfl, trivial⟩ trivial
      (Chain.cons (Cert.cond rfl rfl (fun h => o_eql (.w h) (.ci (by kernel_rfl)))) ⟨rfl, rfl, trivial⟩ trivial
      (Chain.cons (Cert.free rfl (o_and2 .t .t)) ⟨rfl, rfl, trivial⟩ trivial
      (Chain.cons (Cert.free rfl (o_move .t (by rfl))) ⟨rfl, trivial⟩ trivial
      (Chain.cons (Cert.cond rfl rfl (fun h => o_move .t (by rfl))) ⟨rfl, rfl, trivial⟩ trivial
      (Chain.cons (Cert.cond rfl rfl (fun h => o_eql (.w h) (.ci (by kernel_rfl)))) ⟨rfl, rfl, trivial⟩ trivial
      (Chain.cons (Cert.free rfl (o_and2 .t .t)) ⟨rfl, rfl, trivial⟩ trivial
      (Chain.cons (Cert.free rfl (o_move .t (by rfl))) ⟨rfl, trivial⟩ trivial
      (Chain.cons (Cert.cond rfl rfl (fun h => o_load (ag := true) (sz := 4) 103 .is (by kernel_rfl) (by kernel_rfl) (by kernel_rfl) (by rfl))) ⟨rfl, rfl, trivial⟩ ⟨rfl, trivial⟩
      (Chain.cons (Cert.cond rfl rfl (fun h => o_callP (opText_c (opR [114, 53, 64, 51, 46, 50]).1) Tryd.func14 rfl (by kernel_rfl) (Args.one (.pagg (.w h))))) ⟨rfl, rfl, trivial⟩ trivial
      (Chain.cons (Cert.cond rfl rfl (fun h => o_eql_bs Tryd.underlying9 (.w h) (.cs (by kernel_rfl)))) ⟨rfl, rfl, trivial⟩ trivial
      (Chain.cons (Cert.free rfl (o_and2 .t .t)) ⟨rfl, rfl, trivial⟩ trivial
      (Chain.cons (Cert.free rfl (o_move .t (by rfl))) ⟨rfl, trivial⟩ trivial
      (Chain.cons (Cert.cond rfl rfl (fun h => o_load (ag := true) (sz := 4) 101 .is (by kernel_rfl) (by kernel_rfl) (by kernel_rfl) (by rfl))) ⟨rfl, rfl, trivial⟩ ⟨rfl, trivial⟩
      (Chain.cons (Cert.cond rfl rfl (fun h => o_callP (opText_c (opR [119, 53]).1) Tryd.func14 rfl (by kernel_rfl) (Args.one (.pagg (.w h))))) ⟨rfl, rfl, trivial⟩ trivial
      (Chain.cons (Cert.cond rfl rfl (fun h => o_eql_bs Tryd.underlying9 (.w h) (.cs (by kernel_rfl)))) ⟨rfl, rfl, trivial⟩ trivial
      (Chain.cons (Cert.free rfl (o_and2 .t .t)) ⟨rfl, rfl, trivial⟩ trivial
      (Chain.cons (Cert.free rfl (o_move .t (by rfl))) ⟨rfl, trivial⟩ trivial
      (Chain.cons (Cert.cond rfl rfl (fun h => o_build (r := []) (zs := [.bool false, .int .i64 0, .int .i64 0, .int .i64 0]) (pl := [(0, 1), (1, 1), (2, 1), (3, 1)]) (by kernel_rfl) (by kernel_rfl) .nil (by rfl))) ⟨rfl, trivial⟩ trivial
      (Chain.cons (Cert.cond rfl rfl (fun h => o_callP (opText_c ⟨false, 0, 0, 0⟩) Tryd.func14 rfl (by kernel_rfl) (Args.one (.pagg (.w h))))) ⟨rfl, rfl, trivial⟩ trivial
      (Chain.cons (Cert.cond rfl rfl (fun h => o_eql_bs Tryd.underlying9 (.w h) (.cs (by kernel_rfl)))) ⟨rfl, rfl, trivial⟩ trivial
      (Chain.cons (Cert.free rfl (o_and2 .t .t)) ⟨rfl, rfl, trivial⟩ trivial
      (Chain.cons (Cert.free rfl (o_move .t (by rfl))) ⟨rfl, trivial⟩ trivial
      (Chain.cons (Cert.cond rfl rfl (fun h => o_load (ag := true) (sz := 4) 103 .is (by kernel_rfl) (by kernel_rfl) (by kernel_rfl) (by rfl))) ⟨rfl, rfl, trivial⟩ ⟨rfl, trivial⟩
      (Chain.cons (Cert.cond rfl rfl (fun h => o_callP (opOf_c (opR [114, 53, 64, 51, 46, 50]).1) Tryd.func12 rfl (by kernel_rfl) (Args.one (.pagg (.w h))))) ⟨rfl, rfl, trivial⟩ trivial
      (Chain.cons (Cert.cond rfl rfl (fun h => o_build (r := [(0, _), (1, _), (2, _)]) (zs := [.int .i64 0, .int .i64 0, .int .i64 0]) (pl := [(0, 1), (1, 1), (2, 1)]) (by kernel_rfl) (by kernel_rfl) (.one rfl (.ci (by kernel_rfl)) one_int (by kernel_rfl) (.one rfl (.ci (by kernel_rfl)) one_int (by kernel_rfl) (.one rfl (.ci (by kernel_rfl)) one_int (by kernel_rfl) .nil))) (by rfl))) ⟨rfl, trivial⟩ trivial
      (Chain.cons (Cert.cond rfl rfl (fun h => o_eqlS (ks := [true, true, true]) (by kernel_rfl) (.conv (.w h) (.agg (l := rVer (ofO (opR [114, 53, 64, 51, 46, 50]).1)))) (.w h) (.int (.int (.int .nil))))) ⟨rfl, rfl, rfl, trivial⟩ trivial
      (Chain.cons (Cert.free rfl (o_and2 .t .t)) ⟨rfl, rfl, trivial⟩ trivial
      (Chain.cons (Cert.free rfl (o_move .t (by rfl))) ⟨rfl, trivial⟩ trivial
      (Chain.cons (Cert.cond rfl rfl (fun h => o_load (ag := true) (sz := 4) 101 .is (by kernel_rfl) (by kernel_rfl) (by kernel_rfl) (by rfl))) ⟨rfl, rfl, trivial⟩ ⟨rfl, trivial⟩
      (Chain.cons (Cert.cond rfl rfl (fun h => o_callP (opOf_c (opR [119, 53]).1) Tryd.func12 rfl (by kernel_rfl) (Args.one (.pagg (.w h))))) ⟨rfl, rfl, trivial⟩ trivial
      (Chain.cons (Cert.cond rfl rfl (fun h => o_build (r := []) (zs := [.int .i64 0, .int .i64 0, .int .i64 0]) (pl := [(0, 1), (1, 1), (2, 1)]) (by kernel_rfl) (by kernel_rfl) .nil (by rfl))) ⟨rfl, trivial⟩ trivial
      (Chain.cons (Cert.cond rfl rfl (fun h => o_eqlS (ks := [true, true, true]) (by kernel_rfl) (.conv (.w h) (.agg (l := rVer (ofO (opR [119, 53]).1)))) (.w h) (.int (.int (.int .nil))))) ⟨rfl, rfl, rfl, trivial⟩ trivial
      (Chain.cons (Cert.free rfl (o_and2 .t .t)) ⟨rfl, rfl, trivial⟩ trivial
      (Chain.cons (Cert.free rfl (o_move .t (by rfl))) ⟨rfl, trivial⟩ trivial
      (Chain.cons (Cert.cond rfl rfl (fun h => o_load (ag := true) (sz := 4) 102 .is (by kernel_rfl) (by kernel_rfl) (by kernel_rfl) (by rfl))) ⟨rfl, rfl, trivial⟩ ⟨rfl, trivial⟩
      (Chain.cons (Cert.cond rfl rfl (fun h => o_callP (opRight_c (opR [114, 53, 64, 48]).1) Tryd.func11 rfl (by kernel_rfl) (Args.one (.pagg (.w h))))) ⟨rfl, rfl, trivial⟩ trivial
      (Chain.cons (Cert.cond rfl rfl (fun h => o_eql (.w h) (.ci (by kernel_rfl)))) ⟨rfl, rfl, trivial⟩ trivial
      (Chain.cons (Cert.free rfl (o_and2 .t .t)) ⟨rfl, rfl, trivial⟩ trivial
      (Chain.cons (Cert.free rfl (o_move .t (by rfl))) ⟨rfl, trivial⟩ trivial
      (Chain.cons (Cert.cond rfl rfl (fun h => o_build (r := [(1, _), (3, _)]) (zs := [.bool false, .int .i64 0, .int .i64 0, .int .i64 0]) (pl := [(0, 1), (1, 1), (2, 1), (3, 1)]) (by kernel_rfl) (by kernel_rfl) (.one rfl (.ci (by kernel_rfl)) one_int (by kernel_rfl) (.one rfl (.ci (by kernel_rfl)) one_int (by kernel_rfl) .nil)) (by rfl))) ⟨rfl, trivial⟩ trivial
      (Chain.cons (Cert.cond rfl rfl (fun h => o_callP (opRight_c ⟨false, 1, 0, 1⟩) Tryd.func11 rfl (by kernel_rfl) (Args.one (.pagg (.w h))))) ⟨rfl, rfl, trivial⟩ trivial
      (Chain.cons (Cert.cond rfl rfl (fun h => o_eql (.w h) (.ci (by kernel_rfl)))) ⟨rfl, rfl, trivial⟩ trivial
      (Chain.cons (Cert.free rfl (o_and2 .t .t)) ⟨rfl, rfl, trivial⟩ trivial
      (Chain.cons (Cert.free rfl (o_move .t (by rfl))) ⟨rfl, trivial⟩ trivial
      (Chain.cons (Cert.cond rfl rfl (fun h => o_buildSlice0E (R := rOp) (sz := 4) Tryd.underlying24 (by kernel_rfl))) ⟨rfl, trivial⟩ trivial
      (Chain.cons (Cert.cond rfl rfl (fun h => o_callP (opSame_c [] []) Tryd.func16 rfl (by kernel_rfl) (Args.two (.conv (.c rfl) (Ent.nilSl (R := rOp))) (.w h)))) ⟨rfl, rfl, trivial⟩ trivial
      (Chain.cons (Cert.free rfl (o_and2 .t .t)) ⟨rfl, rfl, trivial⟩ trivial
      (Chain.cons (Cert.free rfl (o_move .t (by rfl))) ⟨rfl, trivial⟩ trivial
      (Chain.cons (Cert.cond rfl rfl (fun h => o_load (ag := true) (sz := 4) 102 .is (by kernel_rfl) (by kernel_rfl) (by kernel_rfl) (by rfl))) ⟨rfl, rfl, trivial⟩ ⟨rfl, trivial⟩
      (Chain.cons (Cert.cond rfl rfl (fun h => o_buildSliceE (sz := 4) (zs := [.bool false, .int .i64 0, .int .i64 0, .int .i64 0]) (r := [(0, .tmp 146)]) (l := [_, _, _, _]) Tryd.underlying24 (by kernel_rfl) (by kernel_rfl) (by kernel_rfl) (by kernel_rfl) rfl rfl (.agg rfl (.w h) (by kernel_rfl) (by kernel_rfl) .nil) rfl)) ⟨rfl, rfl, trivial⟩ trivial
      (Chain.cons (Cert.cond rfl rfl (fun h => o_load (ag := true) (sz := 4) 103 .is (by kernel_rfl) (by kernel_rfl) (by kernel_rfl) (by rfl))) ⟨rfl, rfl, trivial⟩ ⟨rfl, trivial⟩
      (Chain.cons (Cert.cond rfl rfl (fun h => o_buildSliceE (sz := 4) (zs := [.bool false, .int .i64 0, .int .i64 0, .int .i64 0]) (r := [(0, .tmp 148)]) (l := [_, _, _, _]) Tryd.underlying24 (by kernel_rfl) (by kernel_rfl) (by kernel_rfl) (by kernel_rfl) rfl rfl (.agg rfl (.w h) (by kernel_rfl) (by kernel_rfl) .nil) rfl)) ⟨rfl, rfl, trivial⟩ trivial
      (Chain.cons (Cert.cond rfl rfl (fun h => o_callP (opSame_c [(opR [114, 53, 64, 48]).1] [(opR [114, 53, 64, 51, 46, 50]).1]) Tryd.func16 rfl (by kernel_rfl) (Args.two (.conv (.w h) (Ent.arrSl (R := rOp) (l := [(opR [114, 53, 64, 48]).1]) rfl)) (.conv (.w h) (Ent.arrSl (R := rOp) (l := [(opR [114, 53, 64, 51, 46, 50]).1]) rfl))))) ⟨rfl, rfl, rfl, trivial⟩ trivial
      (Chain.cons (Cert.cond rfl rfl (fun h => o_not (.w h))) ⟨rfl, rfl, trivial⟩ trivial
      (Chain.cons (Cert.free rfl (o_and2 .t .t)) ⟨rfl, rfl, trivial⟩ trivial
      (Chain.cons (Cert.free rfl (o_assign .t (by rfl))) ⟨rfl, trivial⟩ trivial
      Chain.nil)))))))))))))))))))))))))))))))))))))))))))))))))))))))))))))))))))))))))))))))))))))))))))))))))))
      (by kernel_rfl) (by rw [hB]; kernel_rfl) ?_
  clear hS; intro a w F hS
  replace hS := hS.norm [(0, _)] [(0, _), (101, _), (102, _), (103, _), (104, _), (105, _), (106, _), (107, _), (108, _), (109, _)] ⟨rfl, trivial⟩ ⟨rfl, rfl, rfl, rfl, rfl, rfl, rfl, rfl, rfl, rfl, trivial⟩
  obtain ⟨F, hS⟩ := hS
  try dsimp only [RS.sub, SF.sub, CF.sub, csub, Anc.sub, stCells, List.map, List.length_cons, List.length_nil, Nat.reduceAdd, List.drop_succ_cons, List.drop_zero, List.drop_nil, List.take_succ_cons, List.take_zero, List.take_nil, List.cons_append, List.nil_append, zCF, ldSF] at hS
  refine then_n ?_
  refine wp_ret ?_
  refine ret_P hfr hS rfl (.tmp rfl .nil) (.one (.bool (by decide +kernel)))

theorem opReads_c (o : OpD) (s0 : List UInt8) (x y : List OpD) : FnP Tryd.prog 3 [.agg (rOp o), .bs s0, .sl rOp x, .sl rOp y] (.bool true) := by
  refine FnP.mk Tryd.func3 rfl Tryd.ntmps3 rfl ?_
  intro B a w F hB hfr hS
  refine wp_seq ?_
  refine region_seq hS (by kernel_rfl)
      (Chain.cons (Cert.free rfl (o_boxA 101 (.conv .t .agg) (by kernel_rfl))) ⟨rfl, trivial⟩ trivial
      (Chain.cons (Cert.free rfl (o_assign .cb (by rfl))) trivial trivial
      Chain.nil))
      (by kernel_rfl) (by rw [hB]; kernel_rfl) ?_
  clear hS; intro a w F hS
  replace hS := hS.sub
  replace hS := hS.norm [(1, _), (2, _), (3, _), (4, _), (8, _)] [(0, _), (101, _)] ⟨rfl, rfl, rfl, rfl, rfl, trivial⟩ ⟨rfl, rfl, trivial⟩
  obtain ⟨F, hS⟩ := hS
  try dsimp only [RS.sub, SF.sub, CF.sub, csub, Anc.sub, stCells, List.map, List.length_cons, List.length_nil, Nat.reduceAdd, List.drop_succ_cons, List.drop_zero, List.drop_nil, List.take_succ_cons, List.take_zero, List.take_nil, List.cons_append, List.nil_append, zCF, ldSF] at hS
  generalize Act.tau a 4 = v4 at hS
  refine then_n ?_
  refine wp_seq ?_
  refine wp_seq ?_
  refine region_seq hS (by kernel_rfl)
      (Chain.cons (Cert.free rfl (o_move .t (by rfl))) ⟨rfl, trivial⟩ trivial
      (Chain.cons (Cert.free rfl (o_len_bs Tryd.underlying9 .t)) ⟨rfl, trivial⟩ trivial
      (Chain.cons (Cert.free rfl (o_gtr .t (.ci (by kernel_rfl)))) ⟨rfl, trivial⟩ trivial
      (Chain.cons (Cert.free rfl (o_move .t (by rfl))) ⟨rfl, trivial⟩ trivial
      (Chain.cons (Cert.cond rfl rfl (fun h => o_move .t (by rfl))) ⟨rfl, rfl, trivial⟩ trivial
      (Chain.cons (Cert.cond rfl rfl (fun h => o_len_sl Tryd.underlying24 (.w h))) ⟨rfl, rfl, trivial⟩ trivial
      (Chain.cons (Cert.cond rfl rfl (fun h => o_gtr (.w h) (.ci (by kernel_rfl)))) ⟨rfl, rfl, trivial⟩ trivial
      (Chain.cons (Cert.free rfl (o_or2 .t .t)) ⟨rfl, rfl, trivial⟩ trivial
      (Chain.cons (Cert.free rfl (o_move .t (by rfl))) ⟨rfl, trivial⟩ trivial
      (Chain.cons (Cert.cond rfl rfl (fun h => o_move .t (by rfl))) ⟨rfl, rfl, trivial⟩ trivial
      (Chain.cons (Cert.cond rfl rfl (fun h => o_len_sl Tryd.underlying24 (.w h))) ⟨rfl, rfl, trivial⟩ trivial
      (Chain.cons (Cert.cond rfl rfl (fun h => o_gtr (.w h) (.ci (by kernel_rfl)))) ⟨rfl, rfl, trivial⟩ trivial
      (Chain.cons (Cert.free rfl (o_or2 .t .t)) ⟨rfl, rfl, trivial⟩ trivial
      Chain.nil)))))))))))))
      (by kernel_rfl) (by rw [hB]; kernel_rfl) ?_
  clear hS; intro a w F hS
  replace hS := hS.norm [(1, _), (2, _), (3, _), (4, _), (8, _), (26, _)] [(0, _), (101, _)] ⟨rfl, rfl, rfl, rfl, rfl, rfl, trivial⟩ ⟨rfl, rfl, trivial⟩
  obtain ⟨F, hS⟩ := hS
  try dsimp only [RS.sub, SF.sub, CF.sub, csub, Anc.sub, stCells, List.map, List.length_cons, List.length_nil, Nat.reduceAdd, List.drop_succ_cons, List.drop_zero, List.drop_nil, List.take_succ_cons, List.take_zero, List.take_nil, List.cons_append, List.nil_append, zCF, ldSF] at hS
  refine then_n ?_
  refine cond_b hS rfl (fun hc0 => ?_) (fun hc0 => ?_)
  · skip
    refine wp_seq ?_
    refine region_seq hS (by kernel_rfl)
        (Chain.cons (Cert.free rfl (o_callP (opLives_c) Tryd.func7 rfl (by kernel_rfl) Args.nil)) trivial trivial
        (Chain.cons (Cert.free rfl (o_assign .t (by rfl))) ⟨rfl, trivial⟩ trivial
        Chain.nil))
        (by kernel_rfl) (by rw [hB]; kernel_rfl) ?_
    clear hS; intro a w F hS
    replace hS := hS.norm [(1, _), (2, _), (3, _), (4, _), (8, _)] [(0, _), (101, _)] ⟨rfl, rfl, rfl, rfl, rfl, trivial⟩ ⟨rfl, rfl, trivial⟩
    obtain ⟨F, hS⟩ := hS
    try dsimp only [RS.sub, SF.sub, CF.sub, csub, Anc.sub, stCells, List.map, List.length_cons, List.length_nil, Nat.reduceAdd, List.drop_succ_cons, List.drop_zero, List.drop_nil, List.take_succ_cons, List.take_zero, List.take_nil, List.cons_append, List.nil_append, zCF, ldSF] at hS
    refine then_n ?_
    refine wp_ret ?_
    refine then_r ?_
    refine ret_P hfr hS rfl (.tmp rfl .nil) (.one (.bool (by first | rfl | (unfold rightN; simp [hro]))))
  · skip
    have hlen : s0.length ≤ 1000 := by simp at hc0; omega
    refine wp_skip ?_
    refine then_n ?_
    refine wp_seq ?_
    refine region_seq hS (by kernel_rfl)
        (Chain.cons (Cert.free rfl (o_move .t (by rfl))) ⟨rfl, trivial⟩ trivial
        (Chain.cons (Cert.free rfl (o_callP (opRead_c s0 (by omega)) Tryd.func8 rfl (by kernel_rfl) (Args.one .t))) ⟨rfl, trivial⟩ trivial
        (Chain.cons (Cert.free rfl (o_move .t (by rfl))) ⟨rfl, trivial⟩ trivial
        (Chain.cons (Cert.free rfl (o_extract .t rfl)) ⟨rfl, trivial⟩ trivial
        (Chain.cons (Cert.free rfl (o_extract .t rfl)) ⟨rfl, trivial⟩ trivial
        (Chain.cons (Cert.free rfl (o_alloc (zs := [.bool false, .int .i64 0, .int .i64 0, .int .i64 0]) 102 (by kernel_rfl))) trivial trivial
        (Chain.cons (Cert.free rfl (o_storeA (sz := 4) 102 .same (.conv .t .agg) (by kernel_rfl) (by kernel_rfl) (by kernel_rfl))) ⟨rfl, rfl, trivial⟩ ⟨rfl, trivial⟩
        (Chain.cons (Cert.free rfl (o_assign .t (by rfl))) ⟨rfl, trivial⟩ trivial
        Chain.nil))))))))
        (by kernel_rfl) (by rw [hB]; kernel_rfl) ?_
    clear hS; intro a w F hS
    replace hS := hS.sub
    replace hS := hS.norm [(1, _), (2, _), (3, _), (4, _), (8, _), (9, _), (10, _)] [(0, _), (101, _), (102, _)] ⟨rfl, rfl, rfl, rfl, rfl, rfl, rfl, trivial⟩ ⟨rfl, rfl, rfl, trivial⟩
    obtain ⟨F, hS⟩ := hS
    try dsimp only [RS.sub, SF.sub, CF.sub, csub, Anc.sub, stCells, List.map, List.length_cons, List.length_nil, Nat.reduceAdd, List.drop_succ_cons, List.drop_zero, List.drop_nil, List.take_succ_cons, List.take_zero, List.take_nil, List.cons_append, List.nil_append, zCF, ldSF] at hS
    generalize Act.tau a 9 = v9 at hS
    refine then_n ?_
    refine wp_seq ?_
    refine region_seq hS (by kernel_rfl)
        (Chain.cons (Cert.free rfl (o_move .t (by rfl))) ⟨rfl, trivial⟩ trivial
        (Chain.cons (Cert.free rfl (o_callP (refOpRead_c s0 (by omega)) Tryd.func9 rfl (by kernel_rfl) (Args.one .t))) ⟨rfl, trivial⟩ trivial
        (Chain.cons (Cert.free rfl (o_move .t (by rfl))) ⟨rfl, trivial⟩ trivial
        (Chain.cons (Cert.free rfl (o_extract .t rfl)) ⟨rfl, trivial⟩ trivial
        (Chain.cons (Cert.free rfl (o_extract .t rfl)) ⟨rfl, trivial⟩ trivial
        (Chain.cons (Cert.free rfl (o_alloc (zs := [.bool false, .int .i64 0, .int .i64 0, .int .i64 0]) 103 (by kernel_rfl))) trivial trivial
        (Chain.cons (Cert.free rfl (o_storeA (sz := 4) 103 .same (.conv .t .agg) (by kernel_rfl) (by kernel_rfl) (by kernel_rfl))) ⟨rfl, rfl, trivial⟩ ⟨rfl, trivial⟩
        (Chain.cons (Cert.free rfl (o_assign .t (by rfl))) ⟨rfl, trivial⟩ trivial
        Chain.nil))))))))
        (by kernel_rfl) (by rw [hB]; kernel_rfl) ?_
    clear hS; intro a w F hS
    replace hS := hS.sub
    replace hS := hS.norm [(2, _), (3, _), (4, _), (8, _), (9, _), (10, _), (11, _), (12, _)] [(0, _), (101, _), (102, _), (103, _)] ⟨rfl, rfl, rfl, rfl, rfl, rfl, rfl, rfl, trivial⟩ ⟨rfl, rfl, rfl, rfl, trivial⟩
    obtain ⟨F, hS⟩ := hS
    try dsimp only [RS.sub, SF.sub, CF.sub, csub, Anc.sub, stCells, List.map, List.length_cons, List.length_nil, Nat.reduceAdd, List.drop_succ_cons, List.drop_zero, List.drop_nil, List.take_succ_cons, List.take_zero, List.take_nil, List.cons_append, List.nil_append, zCF, ldSF] at hS
    generalize Act.tau a 11 = v11 at hS
    refine then_n ?_
    refine wp_seq ?_
    refine region_seq hS (by kernel_rfl)
        (Chain.cons (Cert.free rfl (o_assign (.ci (by kernel_rfl)) (by rfl))) trivial trivial
        Chain.nil)
        (by kernel_rfl) (by rw [hB]; kernel_rfl) ?_
    clear hS; intro a w F hS
    replace hS := hS.norm [(2, _), (3, _), (4, _), (8, _), (9, _), (10, _), (11, _), (12, _), (13, _)] [(0, _), (101, _), (102, _), (103, _)] ⟨rfl, rfl, rfl, rfl, rfl, rfl, rfl, rfl, rfl, trivial⟩ ⟨rfl, rfl, rfl, rfl, trivial⟩
    obtain ⟨F, hS⟩ := hS
    try dsimp only [RS.sub, SF.sub, CF.sub, csub, Anc.sub, stCells, List.map, List.length_cons, List.length_nil, Nat.reduceAdd, List.drop_succ_cons, List.drop_zero, List.drop_nil, List.take_succ_cons, List.take_zero, List.take_nil, List.cons_append, List.nil_append, zCF, ldSF] at hS
    refine then_n ?_
    refine wp_seq ?_
    refine wp_seq ?_
    refine region_seq hS (by kernel_rfl)
        (Chain.cons (Cert.free rfl (o_load (ag := true) (sz := 4) 101 .is (by kernel_rfl) (by kernel_rfl) (by kernel_rfl) (by rfl))) ⟨rfl, trivial⟩ ⟨rfl, trivial⟩
        (Chain.cons (Cert.free rfl (o_callP (refOpRight_c o) Tryd.func10 rfl (by kernel_rfl) (Args.one (.pagg .t)))) ⟨rfl, trivial⟩ trivial
        (Chain.cons (Cert.free rfl (o_not .t)) ⟨rfl, trivial⟩ trivial
        Chain.nil)))
        (by kernel_rfl) (by rw [hB]; kernel_rfl) ?_
    clear hS; intro a w F hS
    replace hS := hS.norm [(2, _), (3, _), (4, _), (8, _), (9, _), (10, _), (11, _), (12, _), (13, _), (40, _)] [(0, _), (101, _), (102, _), (103, _)] ⟨rfl, rfl, rfl, rfl, rfl, rfl, rfl, rfl, rfl, rfl, trivial⟩ ⟨rfl, rfl, rfl, rfl, trivial⟩
    obtain ⟨F, hS⟩ := hS
    try dsimp only [RS.sub, SF.sub, CF.sub, csub, Anc.sub, stCells, List.map, List.length_cons, List.length_nil, Nat.reduceAdd, List.drop_succ_cons, List.drop_zero, List.drop_nil, List.take_succ_cons, List.take_zero, List.take_nil, List.cons_append, List.nil_append, zCF, ldSF] at hS
    refine then_n ?_
    refine cond_b hS rfl (fun hc1 => ?_) (fun hc1 => ?_)
    · skip
      have hro : rightO o = false := by simpa using hc1
      refine region_seq hS (by kernel_rfl)
          (Chain.cons (Cert.free rfl (o_assign (.ci (by kernel_rfl)) (by rfl))) trivial trivial
          Chain.nil)
          (by kernel_rfl) (by rw [hB]; kernel_rfl) ?_
      clear hS; intro a w F hS
      replace hS := hS.norm [(2, _), (3, _), (4, _), (8, _), (9, _), (10, _), (11, _), (12, _), (13, _)] [(0, _), (101, _), (102, _), (103, _)] ⟨rfl, rfl, rfl, rfl, rfl, rfl, rfl, rfl, rfl, trivial⟩ ⟨rfl, rfl, rfl, rfl, trivial⟩
      obtain ⟨F, hS⟩ := hS
      try dsimp only [RS.sub, SF.sub, CF.sub, csub, Anc.sub, stCells, List.map, List.length_cons, List.length_nil, Nat.reduceAdd, List.drop_succ_cons, List.drop_zero, List.drop_nil, List.take_succ_cons, List.take_zero, List.take_nil, List.cons_append, List.nil_append, zCF, ldSF] at hS
      refine then_n ?_
      refine wp_seq ?_
      refine region_any (by kernel_rfl) hS (by kernel_rfl)
          (Chain.cons (Cert.free rfl (o_load (ag := true) (sz := 4) 102 .is (by kernel_rfl) (by kernel_rfl) (by kernel_rfl) (by rfl))) ⟨rfl, trivial⟩ ⟨rfl, trivial⟩
          (Chain.cons (Cert.free rfl (o_load (ag := true) (sz := 4) 103 .is (by kernel_rfl) (by kernel_rfl) (by kernel_rfl) (by rfl))) ⟨rfl, trivial⟩ ⟨rfl, trivial⟩
          (Chain.cons (Cert.free rfl (o_eqlS (ks := [false, true, true, true]) (by kernel_rfl) .t .t (.bool (.int (.int (.int .nil)))))) ⟨rfl, rfl, trivial⟩ trivial
          (Chain.cons (Cert.free rfl (o_move .t (by rfl))) ⟨rfl, trivial⟩ trivial
          (Chain.cons (Cert.cond rfl rfl (fun h => o_move .t (by rfl))) ⟨rfl, rfl, trivial⟩ trivial
          (Chain.cons (Cert.cond rfl rfl (fun h => o_move .t (by rfl))) ⟨rfl, rfl, trivial⟩ trivial
          (Chain.cons (Cert.cond rfl rfl (fun h => o_eql (.w h) (.w h))) ⟨rfl, rfl, rfl, trivial⟩ trivial
          (Chain.cons (Cert.free rfl (o_and2 .t .t)) ⟨rfl, rfl, trivial⟩ trivial
          (Chain.cons (Cert.free rfl (o_move .t (by rfl))) ⟨rfl, trivial⟩ trivial
          (Chain.cons (Cert.cond rfl rfl (fun h => o_load (ag := true) (sz := 4) 101 .is (by kernel_rfl) (by kernel_rfl) (by kernel_rfl) (by rfl))) ⟨rfl, rfl, trivial⟩ ⟨rfl, trivial⟩
          (Chain.cons (Cert.cond rfl rfl (fun h => o_callP (opRight_c o) Tryd.func11 rfl (by kernel_rfl) (Args.one (.pagg (.w h))))) ⟨rfl, rfl, trivial⟩ trivial
          (Chain.cons (Cert.cond rfl rfl (fun h => o_move .t (by rfl))) ⟨rfl, rfl, trivial⟩ trivial
          (Chain.cons (Cert.cond rfl rfl (fun h => o_eql (.w h) (.w h))) ⟨rfl, rfl, rfl, trivial⟩ trivial
          (Chain.cons (Cert.free rfl (o_and2 .t .t)) ⟨rfl, rfl, trivial⟩ trivial
          (Chain.cons (Cert.free rfl (o_move .t (by rfl))) ⟨rfl, trivial⟩ trivial
          (Chain.cons (Cert.cond rfl rfl (fun h => o_load (ag := true) (sz := 4) 101 .is (by kernel_rfl) (by kernel_rfl) (by kernel_rfl) (by rfl))) ⟨rfl, rfl, trivial⟩ ⟨rfl, trivial⟩
          (Chain.cons (Cert.cond rfl rfl (fun h => o_callP (opOf_c o) Tryd.func12 rfl (by kernel_rfl) (Args.one (.pagg (.w h))))) ⟨rfl, rfl, trivial⟩ trivial
          (Chain.cons (Cert.cond rfl rfl (fun h => o_load (ag := true) (sz := 4) 101 .is (by kernel_rfl) (by kernel_rfl) (by kernel_rfl) (by rfl))) ⟨rfl, rfl, trivial⟩ ⟨rfl, trivial⟩
          (Chain.cons (Cert.cond rfl rfl (fun h => o_callP (refOf_c o) Tryd.func13 rfl (by kernel_rfl) (Args.one (.pagg (.w h))))) ⟨rfl, rfl, trivial⟩ trivial
          (Chain.cons (Cert.cond rfl rfl (fun h => o_eqlS (ks := [true, true, true]) (by kernel_rfl) (.conv (.w h) (.agg (l := rVer (ofO o)))) (.conv (.w h) (.agg (l := rVer (ofO o)))) (.int (.int (.int .nil))))) ⟨rfl, rfl, rfl, trivial⟩ trivial
          (Chain.cons (Cert.free rfl (o_and2 .t .t)) ⟨rfl, rfl, trivial⟩ trivial
          (Chain.cons (Cert.free rfl (o_move .t (by rfl))) ⟨rfl, trivial⟩ trivial
          (Chain.cons (Cert.cond rfl rfl (fun h => o_load (ag := true) (sz := 4) 101 .is (by kernel_rfl) (by kernel_rfl) (by kernel_rfl) (by rfl))) ⟨rfl, rfl, trivial⟩ ⟨rfl, trivial⟩
          (Chain.cons (Cert.cond rfl rfl (fun h => o_callP (opText_c o) Tryd.func14 rfl (by kernel_rfl) (Args.one (.pagg (.w h))))) ⟨rfl, rfl, trivial⟩ trivial
          (Chain.cons (Cert.cond rfl rfl (fun h => o_load (ag := true) (sz := 4) 101 .is (by kernel_rfl) (by kernel_rfl) (by kernel_rfl) (by rfl))) ⟨rfl, rfl, trivial⟩ ⟨rfl, trivial⟩
          (Chain.cons (Cert.cond rfl rfl (fun h => o_callP (refOpText_c o) Tryd.func15 rfl (by kernel_rfl) (Args.one (.pagg (.w h))))) ⟨rfl, rfl, trivial⟩ trivial
          (Chain.cons (Cert.cond rfl rfl (fun h => o_eql_bs Tryd.underlying9 (.w h) (.w h))) ⟨rfl, rfl, rfl, trivial⟩ trivial
          (Chain.cons (Cert.free rfl (o_and2 .t .t)) ⟨rfl, rfl, trivial⟩ trivial
          (Chain.cons (Cert.free rfl (o_move .t (by rfl))) ⟨rfl, trivial⟩ trivial
          (Chain.cons (Cert.cond rfl rfl (fun h => o_move .t (by rfl))) ⟨rfl, rfl, trivial⟩ trivial
          (Chain.cons (Cert.cond rfl rfl (fun h => o_move .t (by rfl))) ⟨rfl, rfl, trivial⟩ trivial
          (Chain.cons (Cert.cond rfl rfl (fun h => o_callP (opSame_c x y) Tryd.func16 rfl (by kernel_rfl) (Args.two (.w h) (.w h)))) ⟨rfl, rfl, rfl, trivial⟩ trivial
          (Chain.cons (Cert.cond rfl rfl (fun h => o_move .t (by rfl))) ⟨rfl, rfl, trivial⟩ trivial
          (Chain.cons (Cert.cond rfl rfl (fun h => o_move .t (by rfl))) ⟨rfl, rfl, trivial⟩ trivial
          (Chain.cons (Cert.cond rfl rfl (fun h => o_callP (sameOps_c x y) Tryd.func17 rfl (by kernel_rfl) (Args.two (.w h) (.w h)))) ⟨rfl, rfl, rfl, trivial⟩ trivial
          (Chain.cons (Cert.cond rfl rfl (fun h => o_eqlB Tryd.underlying4 (.w h) (.w h))) ⟨rfl, rfl, rfl, trivial⟩ trivial
          (Chain.cons (Cert.free rfl (o_and2 .t .t)) ⟨rfl, rfl, trivial⟩ trivial
          (Chain.cons (Cert.free rfl (o_move .t (by rfl))) ⟨rfl, trivial⟩ trivial
          (Chain.cons (Cert.cond rfl rfl (fun h => o_callP (opLives_c) Tryd.func7 rfl (by kernel_rfl) Args.nil)) ⟨rfl, trivial⟩ trivial
          (Chain.cons (Cert.free rfl (o_and2 .t .t)) ⟨rfl, rfl, trivial⟩ trivial
          (Chain.cons (Cert.free rfl (o_assign .t (by rfl))) ⟨rfl, trivial⟩ trivial
          Chain.nil)))))))))))))))))))))))))))))))))))))))))
          (by kernel_rfl) (by rw [hB]; kernel_rfl) ?_
      clear hS; intro a w F hS
      replace hS := hS.norm [(8, _)] [(0, _), (101, _), (102, _), (103, _)] ⟨rfl, trivial⟩ ⟨rfl, rfl, rfl, rfl, trivial⟩
      obtain ⟨F, hS⟩ := hS
      try dsimp only [RS.sub, SF.sub, CF.sub, csub, Anc.sub, stCells, List.map, List.length_cons, List.length_nil, Nat.reduceAdd, List.drop_succ_cons, List.drop_zero, List.drop_nil, List.take_succ_cons, List.take_zero, List.take_nil, List.cons_append, List.nil_append, zCF, ldSF] at hS
      refine then_n ?_
      refine wp_ret ?_
      refine ret_P hfr hS rfl (.tmp rfl .nil) (.one (.bool (by first | rfl | (unfold rightN; simp [hro]))))
    · skip
      have hro : rightO o = true := by simpa using hc1
      refine wp_skip ?_
      refine then_n ?_
      refine wp_seq ?_
      refine region_any (by kernel_rfl) hS (by kernel_rfl)
          (Chain.cons (Cert.free rfl (o_load (ag := true) (sz := 4) 102 .is (by kernel_rfl) (by kernel_rfl) (by kernel_rfl) (by rfl))) ⟨rfl, trivial⟩ ⟨rfl, trivial⟩
          (Chain.cons (Cert.free rfl (o_load (ag := true) (sz := 4) 103 .is (by kernel_rfl) (by kernel_rfl) (by kernel_rfl) (by rfl))) ⟨rfl, trivial⟩ ⟨rfl, trivial⟩
          (Chain.cons (Cert.free rfl (o_eqlS (ks := [false, true, true, true]) (by kernel_rfl) .t .t (.bool (.int (.int (.int .nil)))))) ⟨rfl, rfl, trivial⟩ trivial
          (Chain.cons (Cert.free rfl (o_move .t (by rfl))) ⟨rfl, trivial⟩ trivial
          (Chain.cons (Cert.cond rfl rfl (fun h => o_move .t (by rfl))) ⟨rfl, rfl, trivial⟩ trivial
          (Chain.cons (Cert.cond rfl rfl (fun h => o_move .t (by rfl))) ⟨rfl, rfl, trivial⟩ trivial
          (Chain.cons (Cert.cond rfl rfl (fun h => o_eql (.w h) (.w h))) ⟨rfl, rfl, rfl, trivial⟩ trivial
          (Chain.cons (Cert.free rfl (o_and2 .t .t)) ⟨rfl, rfl, trivial⟩ trivial
          (Chain.cons (Cert.free rfl (o_move .t (by rfl))) ⟨rfl, trivial⟩ trivial
          (Chain.cons (Cert.cond rfl rfl (fun h => o_load (ag := true) (sz := 4) 101 .is (by kernel_rfl) (by kernel_rfl) (by kernel_rfl) (by rfl))) ⟨rfl, rfl, trivial⟩ ⟨rfl, trivial⟩
          (Chain.cons (Cert.cond rfl rfl (fun h => o_callP (opRight_c o) Tryd.func11 rfl (by kernel_rfl) (Args.one (.pagg (.w h))))) ⟨rfl, rfl, trivial⟩ trivial
          (Chain.cons (Cert.cond rfl rfl (fun h => o_move .t (by rfl))) ⟨rfl, rfl, trivial⟩ trivial
          (Chain.cons (Cert.cond rfl rfl (fun h => o_eql (.w h) (.w h))) ⟨rfl, rfl, rfl, trivial⟩ trivial
          (Chain.cons (Cert.free rfl (o_and2 .t .t)) ⟨rfl, rfl, trivial⟩ trivial
          (Chain.cons (Cert.free rfl (o_move .t (by rfl))) ⟨rfl, trivial⟩ trivial
          (Chain.cons (Cert.cond rfl rfl (fun h => o_load (ag := true) (sz := 4) 101 .is (by kernel_rfl) (by kernel_rfl) (by kernel_rfl) (by rfl))) ⟨rfl, rfl, trivial⟩ ⟨rfl, trivial⟩
          (Chain.cons (Cert.cond rfl rfl (fun h => o_callP (opOf_c o) Tryd.func12 rfl (by kernel_rfl) (Args.one (.pagg (.w h))))) ⟨rfl, rfl, trivial⟩ trivial
          (Chain.cons (Cert.cond rfl rfl (fun h => o_load (ag := true) (sz := 4) 101 .is (by kernel_rfl) (by kernel_rfl) (by kernel_rfl) (by rfl))) ⟨rfl, rfl, trivial⟩ ⟨rfl, trivial⟩
          (Chain.cons (Cert.cond rfl rfl (fun h => o_callP (refOf_c o) Tryd.func13 rfl (by kernel_rfl) (Args.one (.pagg (.w h))))) ⟨rfl, rfl, trivial⟩ trivial
          (Chain.cons (Cert.cond rfl rfl (fun h => o_eqlS (ks := [true, true, true]) (by kernel_rfl) (.conv (.w h) (.agg (l := rVer (ofO o)))) (.conv (.w h) (.agg (l := rVer (ofO o)))) (.int (.int (.int .nil))))) ⟨rfl, rfl, rfl, trivial⟩ trivial
          (Chain.cons (Cert.free rfl (o_and2 .t .t)) ⟨rfl, rfl, trivial⟩ trivial
          (Chain.cons (Cert.free rfl (o_move .t (by rfl))) ⟨rfl, trivial⟩ trivial
          (Chain.cons (Cert.cond rfl rfl (fun h => o_load (ag := true) (sz := 4) 101 .is (by kernel_rfl) (by kernel_rfl) (by kernel_rfl) (by rfl))) ⟨rfl, rfl, trivial⟩ ⟨rfl, trivial⟩
          (Chain.cons (Cert.cond rfl rfl (fun h => o_callP (opText_c o) Tryd.func14 rfl (by kernel_rfl) (Args.one (.pagg (.w h))))) ⟨rfl, rfl, trivial⟩ trivial
          (Chain.cons (Cert.cond rfl rfl (fun h => o_load (ag := true) (sz := 4) 101 .is (by kernel_rfl) (by kernel_rfl) (by kernel_rfl) (by rfl))) ⟨rfl, rfl, trivial⟩ ⟨rfl, trivial⟩
          (Chain.cons (Cert.cond rfl rfl (fun h => o_callP (refOpText_c o) Tryd.func15 rfl (by kernel_rfl) (Args.one (.pagg (.w h))))) ⟨rfl, rfl, trivial⟩ trivial
          (Chain.cons (Cert.cond rfl rfl (fun h => o_eql_bs Tryd.underlying9 (.w h) (.w h))) ⟨rfl, rfl, rfl, trivial⟩ trivial
          (Chain.cons (Cert.free rfl (o_and2 .t .t)) ⟨rfl, rfl, trivial⟩ trivial
          (Chain.cons (Cert.free rfl (o_move .t (by rfl))) ⟨rfl, trivial⟩ trivial
          (Chain.cons (Cert.cond rfl rfl (fun h => o_move .t (by rfl))) ⟨rfl, rfl, trivial⟩ trivial
          (Chain.cons (Cert.cond rfl rfl (fun h => o_move .t (by rfl))) ⟨rfl, rfl, trivial⟩ trivial
          (Chain.cons (Cert.cond rfl rfl (fun h => o_callP (opSame_c x y) Tryd.func16 rfl (by kernel_rfl) (Args.two (.w h) (.w h)))) ⟨rfl, rfl, rfl, trivial⟩ trivial
          (Chain.cons (Cert.cond rfl rfl (fun h => o_move .t (by rfl))) ⟨rfl, rfl, trivial⟩ trivial
          (Chain.cons (Cert.cond rfl rfl (fun h => o_move .t (by rfl))) ⟨rfl, rfl, trivial⟩ trivial
          (Chain.cons (Cert.cond rfl rfl (fun h => o_callP (sameOps_c x y) Tryd.func17 rfl (by kernel_rfl) (Args.two (.w h) (.w h)))) ⟨rfl, rfl, rfl, trivial⟩ trivial
          (Chain.cons (Cert.cond rfl rfl (fun h => o_eqlB Tryd.underlying4 (.w h) (.w h))) ⟨rfl, rfl, rfl, trivial⟩ trivial
          (Chain.cons (Cert.free rfl (o_and2 .t .t)) ⟨rfl, rfl, trivial⟩ trivial
          (Chain.cons (Cert.free rfl (o_move .t (by rfl))) ⟨rfl, trivial⟩ trivial
          (Chain.cons (Cert.cond rfl rfl (fun h => o_callP (opLives_c) Tryd.func7 rfl (by kernel_rfl) Args.nil)) ⟨rfl, trivial⟩ trivial
          (Chain.cons (Cert.free rfl (o_and2 .t .t)) ⟨rfl, rfl, trivial⟩ trivial
          (Chain.cons (Cert.free rfl (o_assign .t (by rfl))) ⟨rfl, trivial⟩ trivial
          Chain.nil)))))))))))))))))))))))))))))))))))))))))
          (by kernel_rfl) (by rw [hB]; kernel_rfl) ?_
      clear hS; intro a w F hS
      replace hS := hS.norm [(8, _)] [(0, _), (101, _), (102, _), (103, _)] ⟨rfl, trivial⟩ ⟨rfl, rfl, rfl, rfl, trivial⟩
      obtain ⟨F, hS⟩ := hS
      try dsimp only [RS.sub, SF.sub, CF.sub, csub, Anc.sub, stCells, List.map, List.length_cons, List.length_nil, Nat.reduceAdd, List.drop_succ_cons, List.drop_zero, List.drop_nil, List.take_succ_cons, List.take_zero, List.take_nil, List.cons_append, List.nil_append, zCF, ldSF] at hS
      refine then_n ?_
      refine wp_ret ?_
      refine ret_P hfr hS rfl (.tmp rfl .nil) (.one (.bool (by first | rfl | (unfold rightN; simp [hro]))))

end Go.Proofs.YtjdcnjemhjldoaaDoor
