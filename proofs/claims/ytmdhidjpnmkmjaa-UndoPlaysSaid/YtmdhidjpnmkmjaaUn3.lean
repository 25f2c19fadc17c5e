/- Undo, Redo, New. No condition beyond those that each theorem says. -/
import Derived.Test.YtmdhidjpnmkmjaaUn2
namespace Go.Proofs.Ytmdhidjpnmkmjaa
open Go Go.Gm
set_option linter.unusedVariables false
set_option linter.unusedSimpArgs false
set_option maxHeartbeats 4000000
set_option maxRecDepth 8000

theorem undo_c (b n : Nat) (D U : List DeltaD) : FnG Try.prog 24 1 [.is (.pointer (some ⟨b, 0, none⟩))] [logH (.pointer (some ⟨b, 0, none⟩)) n D U] (.tup [.agg (rDelta (undoX D)), .int .i64 (emptyE D)]) (fun _ => [logH (.pointer (some ⟨b, 0, none⟩)) n (undoL (D, U)).1 (undoL (D, U)).2]) := by
  refine FnG.mk Try.func24 rfl Try.ntmps24 rfl (by kernel_rfl) ?_
  intro B F0 a w F hB hG hS
  refine wp_seq ?_
  refine region_seq hS (by kernel_rfl)
      (Chain.cons (Cert.free rfl (o_alloc (zs := [.slice none 0 0, .slice none 0 0, .slice none 0 0, .slice none 0 0]) 101 (by kernel_rfl))) trivial trivial
      (Chain.cons (Cert.free rfl (o_assign (.ci (by kernel_rfl)) (by rfl))) trivial trivial
      Chain.nil))
      (by kernel_rfl) (by rw [hB]; kernel_rfl) ?_
  clear hS; intro a w F hS
  replace hS := hS.sub
  replace hS := hS.norm [(0, _), (2, _), (3, _)] [(0, _), (1, _), (101, _)] ⟨rfl, rfl, rfl, trivial⟩ ⟨rfl, rfl, rfl, trivial⟩
  obtain ⟨F, hS⟩ := hS
  try dsimp only [RS.sub, SF.sub, CF.sub, csub, Anc.sub, stCells, List.map, List.length_cons, List.length_nil, Nat.reduceAdd, List.drop_succ_cons, List.drop_zero, List.drop_nil, List.take_succ_cons, List.take_zero, List.take_nil, List.cons_append, List.nil_append, zCF, ldSF] at hS
  generalize Act.tau a 2 = v2 at hS
  refine then_n ?_
  refine wp_seq ?_
  refine wp_seq ?_
  refine region_seq hS (by kernel_rfl)
      (Chain.cons (Cert.free rfl (o_move .t (by rfl))) ⟨rfl, trivial⟩ trivial
      (Chain.cons (Cert.free rfl (o_callG1 1 (len_c b n D U) Try.func29 rfl (by kernel_rfl) (Args.one .t))) ⟨rfl, trivial⟩ ⟨rfl, trivial⟩
      (Chain.cons (Cert.free rfl (o_eql .t (.ci (by kernel_rfl)))) ⟨rfl, trivial⟩ trivial
      Chain.nil)))
      (by kernel_rfl) (by rw [hB]; kernel_rfl) ?_
  clear hS; intro a w F hS
  replace hS := hS.norm [(0, _), (2, _), (3, _), (6, _)] [(0, _), (1, _), (101, _)] ⟨rfl, rfl, rfl, rfl, trivial⟩ ⟨rfl, rfl, rfl, trivial⟩
  obtain ⟨F, hS⟩ := hS
  try dsimp only [RS.sub, SF.sub, CF.sub, csub, Anc.sub, stCells, List.map, List.length_cons, List.length_nil, Nat.reduceAdd, List.drop_succ_cons, List.drop_zero, List.drop_nil, List.take_succ_cons, List.take_zero, List.take_nil, List.cons_append, List.nil_append, zCF, ldSF] at hS
  refine then_n ?_
  refine cond_b hS rfl (fun hc0 => ?_) (fun hc0 => ?_)
  · skip
    have hD0 : D.length = 0 := by rw [decide_eq_true_eq] at hc0; omega
    have hu : undoL (D, U) = (D, U) := if_pos hD0
    have hx : undoX D = noD := if_pos hD0
    have he : emptyE D = 15 := if_pos hD0
    refine wp_seq ?_
    refine region_seq hS (by kernel_rfl)
        (Chain.cons (Cert.free rfl (o_build (r := []) (zs := [.slice none 0 0, .slice none 0 0, .slice none 0 0, .slice none 0 0]) (pl := [(0, 1), (1, 1), (2, 1), (3, 1)]) (by kernel_rfl) (by kernel_rfl) .nil (by rfl))) trivial trivial
        (Chain.cons (Cert.free rfl (o_storeA (sz := 4) 101 .is .t (by kernel_rfl) (by kernel_rfl) (by kernel_rfl))) ⟨rfl, rfl, trivial⟩ ⟨rfl, trivial⟩
        (Chain.cons (Cert.free rfl (o_assign (.ci (by kernel_rfl)) (by rfl))) trivial trivial
        Chain.nil)))
        (by kernel_rfl) (by rw [hB]; kernel_rfl) ?_
    clear hS; intro a w F hS
    replace hS := hS.norm [(0, _), (2, _), (3, _)] [(0, _), (1, _), (101, _)] ⟨rfl, rfl, rfl, trivial⟩ ⟨rfl, rfl, rfl, trivial⟩
    obtain ⟨F, hS⟩ := hS
    try dsimp only [RS.sub, SF.sub, CF.sub, csub, Anc.sub, stCells, List.map, List.length_cons, List.length_nil, Nat.reduceAdd, List.drop_succ_cons, List.drop_zero, List.drop_nil, List.take_succ_cons, List.take_zero, List.take_nil, List.cons_append, List.nil_append, zCF, ldSF] at hS
    refine then_n ?_
    refine wp_ret ?_
    refine then_r ?_
    have hS := hS.turn 1 rfl (r' := RS.hp (logH (.pointer (some ⟨b, 0, none⟩)) n (undoL (D, U)).1 (undoL (D, U)).2)) (fun _ _ _ _ h => by rw [hu]; exact h)
    refine ret_G1 hG hS rfl (.cell (n := 101) (ag := true) (sz := 4) rfl .is rfl (by kernel_rfl) (by kernel_rfl) (by kernel_rfl) (.tmp rfl .nil)) (.two (by rw [hx]; exact .aggLe rfl noD_le) (.int (by rw [he]))) rfl
  · skip
    obtain ⟨rv, hS⟩ := hS.open_ex 1 rfl
    obtain ⟨c, hS⟩ := hS.open_ex 1 rfl
    obtain ⟨f, hS⟩ := hS.open_ex 1 rfl
    obtain ⟨hI, hS⟩ := hS.open_and 1 rfl
    obtain ⟨F, hS⟩ := hS.peel 1 2 rfl rfl
    obtain ⟨F, hS⟩ := hS.peel 1 3 rfl rfl
    have hroom := hI.room
    have hff := hI.first
    have hfit := hI.fits
    rw [List.length_append, List.length_reverse] at hfit
    have hD0 : D.length ≠ 0 := by rw [decide_eq_false_iff_not] at hc0; omega
    have h0 : n ≠ 0 := by omega
    have hx : undoX D = inv (Go.Gm.nth D (D.length - 1)) := if_neg hD0
    have he : emptyE D = 0 := if_neg hD0
    have hu : undoL (D, U) = (D.take (D.length - 1), U ++ [Go.Gm.nth D (D.length - 1)]) := if_neg hD0
    have hl1 : (undoL (D, U)).1.length = D.length - 1 := by rw [hu]; simp only [List.length_take]; omega
    have hl2 : (undoL (D, U)).2.length = U.length + 1 := by rw [hu]; simp
    obtain ⟨k, hk⟩ : ∃ k, k = (f + (D.length - 1)) % n := ⟨_, rfl⟩
    have hok : DOk (Go.Gm.nth c (((f + (D.length - 1)) % n : Nat) : Int).toNat) := by rw [Int.toNat_natCast, undo_at hI hD0, ← nth_apL (r := U.reverse) (by omega)]; exact hI.ok _ (by rw [List.length_append]; omega)
    have hI0 : (0 : Int) ≤ (((f + (D.length - 1)) % n : Nat) : Int) := Int.natCast_nonneg _
    have hI1 : (((f + (D.length - 1)) % n : Nat) : Int) < c.length := by rw [hI.len]; exact Int.ofNat_lt.2 (Nat.mod_lt _ (Nat.pos_of_ne_zero h0))
    have hI2 : (((f + (D.length - 1)) % n : Nat) : Int).toNat < c.length := by omega
    replace hS := hS.norm [(0, _), (2, _), (3, _), (6, _)] [(0, _), (2, _), (3, _), (101, _)] ⟨rfl, rfl, rfl, rfl, trivial⟩ ⟨rfl, rfl, rfl, rfl, trivial⟩
    obtain ⟨F, hS⟩ := hS
    refine wp_skip ?_
    refine then_n ?_
    refine wp_seq ?_
    refine region_seq hS (by kernel_rfl)
        (Chain.cons (Cert.free rfl (o_move .t (by rfl))) ⟨rfl, trivial⟩ trivial
        (Chain.cons (Cert.free rfl (o_nilCheck 2 .is (by rfl))) ⟨rfl, trivial⟩ ⟨rfl, trivial⟩
        (Chain.cons (Cert.free rfl (o_fieldAddr (off := 3) 2 .adr (by kernel_rfl) (by rfl))) ⟨rfl, trivial⟩ ⟨rfl, trivial⟩
        (Chain.cons (Cert.free rfl (o_load (ag := false) (sz := 1) 2 .adr (by kernel_rfl) (by kernel_rfl) (by kernel_rfl) (by rfl))) ⟨rfl, trivial⟩ ⟨rfl, trivial⟩
        (Chain.cons (Cert.free rfl (o_sub .t (.ci (by kernel_rfl)))) ⟨rfl, trivial⟩ trivial
        (Chain.cons (Cert.free rfl (o_nilCheck 2 .is (by rfl))) ⟨rfl, trivial⟩ ⟨rfl, trivial⟩
        (Chain.cons (Cert.free rfl (o_fieldAddr (off := 3) 2 .adr (by kernel_rfl) (by rfl))) ⟨rfl, trivial⟩ ⟨rfl, trivial⟩
        (Chain.cons (Cert.free rfl (o_store1 2 .adr .t one_int (by kernel_rfl) (by kernel_rfl))) ⟨rfl, rfl, trivial⟩ ⟨rfl, trivial⟩
        Chain.nil))))))))
        (by kernel_rfl) (by rw [hB]; kernel_rfl) ?_
    clear hS; intro a w F hS
    replace hS := hS.norm [(0, _), (2, _), (3, _)] [(0, _), (2, _), (3, _), (101, _)] ⟨rfl, rfl, rfl, trivial⟩ ⟨rfl, rfl, rfl, rfl, trivial⟩
    obtain ⟨F, hS⟩ := hS
    try dsimp only [RS.sub, SF.sub, CF.sub, csub, Anc.sub, stCells, List.map, List.length_cons, List.length_nil, Nat.reduceAdd, List.drop_succ_cons, List.drop_zero, List.drop_nil, List.take_succ_cons, List.take_zero, List.take_nil, List.cons_append, List.nil_append, zCF, ldSF] at hS
    rw [show IntKind.wrap .i64 ((D.length : Int) - 1) = ((D.length - 1 : Nat) : Int) by rw [wrap_i64 (by omega)]; omega] at hS
    refine then_n ?_
    refine wp_seq ?_
    refine region_seq hS (by kernel_rfl)
        (Chain.cons (Cert.free rfl (o_move .t (by rfl))) ⟨rfl, trivial⟩ trivial
        (Chain.cons (Cert.free rfl (o_nilCheck 2 .is (by rfl))) ⟨rfl, trivial⟩ ⟨rfl, trivial⟩
        (Chain.cons (Cert.free rfl (o_fieldAddr (off := 4) 2 .adr (by kernel_rfl) (by rfl))) ⟨rfl, trivial⟩ ⟨rfl, trivial⟩
        (Chain.cons (Cert.free rfl (o_load (ag := false) (sz := 1) 2 .adr (by kernel_rfl) (by kernel_rfl) (by kernel_rfl) (by rfl))) ⟨rfl, trivial⟩ ⟨rfl, trivial⟩
        (Chain.cons (Cert.free rfl (o_add .t (.ci (by kernel_rfl)))) ⟨rfl, trivial⟩ trivial
        (Chain.cons (Cert.free rfl (o_nilCheck 2 .is (by rfl))) ⟨rfl, trivial⟩ ⟨rfl, trivial⟩
        (Chain.cons (Cert.free rfl (o_fieldAddr (off := 4) 2 .adr (by kernel_rfl) (by rfl))) ⟨rfl, trivial⟩ ⟨rfl, trivial⟩
        (Chain.cons (Cert.free rfl (o_store1 2 .adr .t one_int (by kernel_rfl) (by kernel_rfl))) ⟨rfl, rfl, trivial⟩ ⟨rfl, trivial⟩
        Chain.nil))))))))
        (by kernel_rfl) (by rw [hB]; kernel_rfl) ?_
    clear hS; intro a w F hS
    replace hS := hS.norm [(0, _), (2, _), (3, _)] [(0, _), (2, _), (3, _), (101, _)] ⟨rfl, rfl, rfl, trivial⟩ ⟨rfl, rfl, rfl, rfl, trivial⟩
    obtain ⟨F, hS⟩ := hS
    try dsimp only [RS.sub, SF.sub, CF.sub, csub, Anc.sub, stCells, List.map, List.length_cons, List.length_nil, Nat.reduceAdd, List.drop_succ_cons, List.drop_zero, List.drop_nil, List.take_succ_cons, List.take_zero, List.take_nil, List.cons_append, List.nil_append, zCF, ldSF] at hS
    rw [wrap_succ (by omega)] at hS
    refine then_n ?_
    refine wp_seq ?_
    refine region_any (by kernel_rfl) hS (by kernel_rfl)
        (Chain.cons (Cert.free rfl (o_move .t (by rfl))) ⟨rfl, trivial⟩ trivial
        (Chain.cons (Cert.free rfl (o_nilCheck 2 .is (by rfl))) ⟨rfl, trivial⟩ ⟨rfl, trivial⟩
        (Chain.cons (Cert.free rfl (o_fieldAddr (off := 1) 2 .adr (by kernel_rfl) (by rfl))) ⟨rfl, trivial⟩ ⟨rfl, trivial⟩
        (Chain.cons (Cert.free rfl (o_load (ag := false) (sz := 1) 2 .adr (by kernel_rfl) (by kernel_rfl) (by kernel_rfl) (by rfl))) ⟨rfl, trivial⟩ ⟨rfl, trivial⟩
        (Chain.cons (Cert.free rfl (o_move .t (by rfl))) ⟨rfl, trivial⟩ trivial
        (Chain.cons (Cert.free rfl (o_move .t (by rfl))) ⟨rfl, trivial⟩ trivial
        (Chain.cons (Cert.free rfl (o_nilCheck 2 .is (by rfl))) ⟨rfl, trivial⟩ ⟨rfl, trivial⟩
        (Chain.cons (Cert.free rfl (o_fieldAddr (off := 3) 2 .adr (by kernel_rfl) (by rfl))) ⟨rfl, trivial⟩ ⟨rfl, trivial⟩
        (Chain.cons (Cert.free rfl (o_load (ag := false) (sz := 1) 2 .adr (by kernel_rfl) (by kernel_rfl) (by kernel_rfl) (by rfl))) ⟨rfl, trivial⟩ ⟨rfl, trivial⟩
        (Chain.cons (Cert.free rfl (o_callR (cells := [.pv _, .pv _, .pv _, .pv _, .pv _]) 2 (place_c n f (D.length - 1) _ _ _ h0 hroom hff (by omega)) (fun _ _ _ _ _ h => h) rfl Try.func44 rfl (by kernel_rfl) (ArgsLent.two .is .t))) ⟨rfl, rfl, trivial⟩ ⟨rfl, trivial⟩
        (Chain.cons (Cert.free rfl (o_indexAddr_row (sz := 4) 3 (.mk Try.underlying47 (by kernel_rfl)) .is .t hI0 hI1 (by rfl))) ⟨rfl, rfl, trivial⟩ ⟨rfl, trivial⟩
        (Chain.cons (Cert.free rfl (o_load_row0 (ag := true) (sz' := 4) (sz := 4) 3 .t (by intro x; rfl) hI2 (by kernel_rfl) (by kernel_rfl) (by kernel_rfl))) ⟨rfl, trivial⟩ ⟨rfl, trivial⟩
        (Chain.cons (Cert.free rfl (o_callP (invert_c _ hok) Try.func47 rfl (by kernel_rfl) (Args.one (.pagg .t)))) ⟨rfl, trivial⟩ trivial
        (Chain.cons (Cert.free rfl (o_storeA (sz := 4) 101 .is (.conv .t .agg) (by kernel_rfl) (by kernel_rfl) (by kernel_rfl))) ⟨rfl, rfl, trivial⟩ ⟨rfl, trivial⟩
        (Chain.cons (Cert.free rfl (o_assign (.ci (by kernel_rfl)) (by rfl))) trivial trivial
        Chain.nil)))))))))))))))
        (by kernel_rfl) (by rw [hB]; kernel_rfl) ?_
    clear hS; intro a w F hS
    replace hS := hS.norm [(2, _), (3, _)] [(0, _), (2, _), (3, _), (101, _)] ⟨rfl, rfl, trivial⟩ ⟨rfl, rfl, rfl, rfl, trivial⟩
    obtain ⟨F, hS⟩ := hS
    try dsimp only [RS.sub, SF.sub, CF.sub, csub, Anc.sub, stCells, List.map, List.length_cons, List.length_nil, Nat.reduceAdd, List.drop_succ_cons, List.drop_zero, List.drop_nil, List.take_succ_cons, List.take_zero, List.take_nil, List.cons_append, List.nil_append, zCF, ldSF] at hS
    rw [Int.toNat_natCast, undo_at hI hD0] at hS
    refine then_n ?_
    refine wp_ret ?_
    have hS := hS.fresh 1 rfl
    obtain ⟨F, hS⟩ := hS.push 1 3 rfl rfl rfl (by kernel_rfl)
    obtain ⟨F, hS⟩ := hS.push 1 2 rfl rfl rfl (by kernel_rfl)
    have hS := hS.turn 1 rfl (r' := RS.hp (logH (.pointer (some ⟨b, 0, none⟩)) n (undoL (D, U)).1 (undoL (D, U)).2)) (fun _ _ _ _ h => ⟨_, _, _, (by rw [undo_seq]; exact hI), (by rw [hl1, hl2]; exact h)⟩)
    refine ret_G1 hG hS rfl (.cell (n := 101) (ag := true) (sz := 4) rfl .is rfl (by kernel_rfl) (by kernel_rfl) (by kernel_rfl) (.tmp rfl .nil)) (.two (by rw [hx]; exact .aggU rfl rfl) (.int (by rw [he]))) rfl

theorem redo_c (b n : Nat) (D U : List DeltaD) : FnG Try.prog 26 1 [.is (.pointer (some ⟨b, 0, none⟩))] [logH (.pointer (some ⟨b, 0, none⟩)) n D U] (.tup [.agg (rDelta (redoX U)), .int .i64 (emptyE U)]) (fun _ => [logH (.pointer (some ⟨b, 0, none⟩)) n (redoL (D, U)).1 (redoL (D, U)).2]) := by
  refine FnG.mk Try.func26 rfl Try.ntmps26 rfl (by kernel_rfl) ?_
  intro B F0 a w F hB hG hS
  refine wp_seq ?_
  refine region_seq hS (by kernel_rfl)
      (Chain.cons (Cert.free rfl (o_alloc (zs := [.slice none 0 0, .slice none 0 0, .slice none 0 0, .slice none 0 0]) 101 (by kernel_rfl))) trivial trivial
      (Chain.cons (Cert.free rfl (o_assign (.ci (by kernel_rfl)) (by rfl))) trivial trivial
      Chain.nil))
      (by kernel_rfl) (by rw [hB]; kernel_rfl) ?_
  clear hS; intro a w F hS
  replace hS := hS.sub
  replace hS := hS.norm [(0, _), (2, _), (3, _)] [(0, _), (1, _), (101, _)] ⟨rfl, rfl, rfl, trivial⟩ ⟨rfl, rfl, rfl, trivial⟩
  obtain ⟨F, hS⟩ := hS
  try dsimp only [RS.sub, SF.sub, CF.sub, csub, Anc.sub, stCells, List.map, List.length_cons, List.length_nil, Nat.reduceAdd, List.drop_succ_cons, List.drop_zero, List.drop_nil, List.take_succ_cons, List.take_zero, List.take_nil, List.cons_append, List.nil_append, zCF, ldSF] at hS
  generalize Act.tau a 2 = v2 at hS
  refine then_n ?_
  refine wp_seq ?_
  refine wp_seq ?_
  refine region_seq hS (by kernel_rfl)
      (Chain.cons (Cert.free rfl (o_move .t (by rfl))) ⟨rfl, trivial⟩ trivial
      (Chain.cons (Cert.free rfl (o_callG1 1 (ahead_c b n D U) Try.func30 rfl (by kernel_rfl) (Args.one .t))) ⟨rfl, trivial⟩ ⟨rfl, trivial⟩
      (Chain.cons (Cert.free rfl (o_eql .t (.ci (by kernel_rfl)))) ⟨rfl, trivial⟩ trivial
      Chain.nil)))
      (by kernel_rfl) (by rw [hB]; kernel_rfl) ?_
  clear hS; intro a w F hS
  replace hS := hS.norm [(0, _), (2, _), (3, _), (7, _)] [(0, _), (1, _), (101, _)] ⟨rfl, rfl, rfl, rfl, trivial⟩ ⟨rfl, rfl, rfl, trivial⟩
  obtain ⟨F, hS⟩ := hS
  try dsimp only [RS.sub, SF.sub, CF.sub, csub, Anc.sub, stCells, List.map, List.length_cons, List.length_nil, Nat.reduceAdd, List.drop_succ_cons, List.drop_zero, List.drop_nil, List.take_succ_cons, List.take_zero, List.take_nil, List.cons_append, List.nil_append, zCF, ldSF] at hS
  refine then_n ?_
  refine cond_b hS rfl (fun hc0 => ?_) (fun hc0 => ?_)
  · skip
    have hU0 : U.length = 0 := by rw [decide_eq_true_eq] at hc0; omega
    have hu : redoL (D, U) = (D, U) := if_pos hU0
    have hx : redoX U = noD := if_pos hU0
    have he : emptyE U = 15 := if_pos hU0
    refine wp_seq ?_
    refine region_seq hS (by kernel_rfl)
        (Chain.cons (Cert.free rfl (o_build (r := []) (zs := [.slice none 0 0, .slice none 0 0, .slice none 0 0, .slice none 0 0]) (pl := [(0, 1), (1, 1), (2, 1), (3, 1)]) (by kernel_rfl) (by kernel_rfl) .nil (by rfl))) trivial trivial
        (Chain.cons (Cert.free rfl (o_storeA (sz := 4) 101 .is .t (by kernel_rfl) (by kernel_rfl) (by kernel_rfl))) ⟨rfl, rfl, trivial⟩ ⟨rfl, trivial⟩
        (Chain.cons (Cert.free rfl (o_assign (.ci (by kernel_rfl)) (by rfl))) trivial trivial
        Chain.nil)))
        (by kernel_rfl) (by rw [hB]; kernel_rfl) ?_
    clear hS; intro a w F hS
    replace hS := hS.norm [(0, _), (2, _), (3, _)] [(0, _), (1, _), (101, _)] ⟨rfl, rfl, rfl, trivial⟩ ⟨rfl, rfl, rfl, trivial⟩
    obtain ⟨F, hS⟩ := hS
    try dsimp only [RS.sub, SF.sub, CF.sub, csub, Anc.sub, stCells, List.map, List.length_cons, List.length_nil, Nat.reduceAdd, List.drop_succ_cons, List.drop_zero, List.drop_nil, List.take_succ_cons, List.take_zero, List.take_nil, List.cons_append, List.nil_append, zCF, ldSF] at hS
    refine then_n ?_
    refine wp_ret ?_
    refine then_r ?_
    have hS := hS.turn 1 rfl (r' := RS.hp (logH (.pointer (some ⟨b, 0, none⟩)) n (redoL (D, U)).1 (redoL (D, U)).2)) (fun _ _ _ _ h => by rw [hu]; exact h)
    refine ret_G1 hG hS rfl (.cell (n := 101) (ag := true) (sz := 4) rfl .is rfl (by kernel_rfl) (by kernel_rfl) (by kernel_rfl) (.tmp rfl .nil)) (.two (by rw [hx]; exact .aggLe rfl noD_le) (.int (by rw [he]))) rfl
  · skip
    obtain ⟨rv, hS⟩ := hS.open_ex 1 rfl
    obtain ⟨c, hS⟩ := hS.open_ex 1 rfl
    obtain ⟨f, hS⟩ := hS.open_ex 1 rfl
    obtain ⟨hI, hS⟩ := hS.open_and 1 rfl
    obtain ⟨F, hS⟩ := hS.peel 1 2 rfl rfl
    obtain ⟨F, hS⟩ := hS.peel 1 3 rfl rfl
    have hroom := hI.room
    have hff := hI.first
    have hfit := hI.fits
    rw [List.length_append, List.length_reverse] at hfit
    have hU0 : U.length ≠ 0 := by rw [decide_eq_false_iff_not] at hc0; omega
    have h0 : n ≠ 0 := by omega
    have hx : redoX U = Go.Gm.nth U (U.length - 1) := if_neg hU0
    have he : emptyE U = 0 := if_neg hU0
    have hu : redoL (D, U) = (D ++ [Go.Gm.nth U (U.length - 1)], U.take (U.length - 1)) := if_neg hU0
    have hl1 : (redoL (D, U)).1.length = D.length + 1 := by rw [hu]; simp
    have hl2 : (redoL (D, U)).2.length = U.length - 1 := by rw [hu]; simp only [List.length_take]; omega
    have hok : DOk (Go.Gm.nth c (((f + D.length) % n : Nat) : Int).toNat) := by rw [Int.toNat_natCast, hI.cell _ (by rw [List.length_append, List.length_reverse]; omega)]; exact hI.ok _ (by rw [List.length_append, List.length_reverse]; omega)
    have hI0 : (0 : Int) ≤ (((f + D.length) % n : Nat) : Int) := Int.natCast_nonneg _
    have hI1 : (((f + D.length) % n : Nat) : Int) < c.length := by rw [hI.len]; exact Int.ofNat_lt.2 (Nat.mod_lt _ (Nat.pos_of_ne_zero h0))
    have hI2 : (((f + D.length) % n : Nat) : Int).toNat < c.length := by omega
    replace hS := hS.norm [(0, _), (2, _), (3, _), (7, _)] [(0, _), (2, _), (3, _), (101, _)] ⟨rfl, rfl, rfl, rfl, trivial⟩ ⟨rfl, rfl, rfl, rfl, trivial⟩
    obtain ⟨F, hS⟩ := hS
    refine wp_skip ?_
    refine then_n ?_
    refine wp_seq ?_
    refine region_any (by kernel_rfl) hS (by kernel_rfl)
        (Chain.cons (Cert.free rfl (o_move .t (by rfl))) ⟨rfl, trivial⟩ trivial
        (Chain.cons (Cert.free rfl (o_nilCheck 2 .is (by rfl))) ⟨rfl, trivial⟩ ⟨rfl, trivial⟩
        (Chain.cons (Cert.free rfl (o_fieldAddr (off := 1) 2 .adr (by kernel_rfl) (by rfl))) ⟨rfl, trivial⟩ ⟨rfl, trivial⟩
        (Chain.cons (Cert.free rfl (o_load (ag := false) (sz := 1) 2 .adr (by kernel_rfl) (by kernel_rfl) (by kernel_rfl) (by rfl))) ⟨rfl, trivial⟩ ⟨rfl, trivial⟩
        (Chain.cons (Cert.free rfl (o_move .t (by rfl))) ⟨rfl, trivial⟩ trivial
        (Chain.cons (Cert.free rfl (o_move .t (by rfl))) ⟨rfl, trivial⟩ trivial
        (Chain.cons (Cert.free rfl (o_nilCheck 2 .is (by rfl))) ⟨rfl, trivial⟩ ⟨rfl, trivial⟩
        (Chain.cons (Cert.free rfl (o_fieldAddr (off := 3) 2 .adr (by kernel_rfl) (by rfl))) ⟨rfl, trivial⟩ ⟨rfl, trivial⟩
        (Chain.cons (Cert.free rfl (o_load (ag := false) (sz := 1) 2 .adr (by kernel_rfl) (by kernel_rfl) (by kernel_rfl) (by rfl))) ⟨rfl, trivial⟩ ⟨rfl, trivial⟩
        (Chain.cons (Cert.free rfl (o_callR (cells := [.pv _, .pv _, .pv _, .pv _, .pv _]) 2 (place_c n f D.length _ _ _ h0 hroom hff (by omega)) (fun _ _ _ _ _ h => h) rfl Try.func44 rfl (by kernel_rfl) (ArgsLent.two .is .t))) ⟨rfl, rfl, trivial⟩ ⟨rfl, trivial⟩
        (Chain.cons (Cert.free rfl (o_indexAddr_row (sz := 4) 3 (.mk Try.underlying47 (by kernel_rfl)) .is .t hI0 hI1 (by rfl))) ⟨rfl, rfl, trivial⟩ ⟨rfl, trivial⟩
        (Chain.cons (Cert.free rfl (o_load_row0 (ag := true) (sz' := 4) (sz := 4) 3 .t (by intro x; rfl) hI2 (by kernel_rfl) (by kernel_rfl) (by kernel_rfl))) ⟨rfl, trivial⟩ ⟨rfl, trivial⟩
        (Chain.cons (Cert.free rfl (o_callP (ucopied_c _ hok) Try.func45 rfl (by kernel_rfl) (Args.one (.pagg .t)))) ⟨rfl, trivial⟩ trivial
        (Chain.cons (Cert.free rfl (o_alloc (zs := [.slice none 0 0, .slice none 0 0, .slice none 0 0, .slice none 0 0]) 102 (by kernel_rfl))) trivial trivial
        (Chain.cons (Cert.free rfl (o_storeA (sz := 4) 102 .same (.conv .t .agg) (by kernel_rfl) (by kernel_rfl) (by kernel_rfl))) ⟨rfl, rfl, trivial⟩ ⟨rfl, trivial⟩
        Chain.nil)))))))))))))))
        (by kernel_rfl) (by rw [hB]; kernel_rfl) ?_
    clear hS; intro a w F hS
    replace hS := hS.sub
    replace hS := hS.norm [(0, _), (2, _), (3, _), (4, _)] [(0, _), (2, _), (3, _), (101, _), (102, _)] ⟨rfl, rfl, rfl, rfl, trivial⟩ ⟨rfl, rfl, rfl, rfl, rfl, trivial⟩
    obtain ⟨F, hS⟩ := hS
    try dsimp only [RS.sub, SF.sub, CF.sub, csub, Anc.sub, stCells, List.map, List.length_cons, List.length_nil, Nat.reduceAdd, List.drop_succ_cons, List.drop_zero, List.drop_nil, List.take_succ_cons, List.take_zero, List.take_nil, List.cons_append, List.nil_append, zCF, ldSF] at hS
    generalize Act.tau a 4 = v4 at hS
    rw [Int.toNat_natCast, redo_at hI hU0] at hS
    refine then_n ?_
    refine wp_seq ?_
    refine region_seq hS (by kernel_rfl)
        (Chain.cons (Cert.free rfl (o_move .t (by rfl))) ⟨rfl, trivial⟩ trivial
        (Chain.cons (Cert.free rfl (o_nilCheck 2 .is (by rfl))) ⟨rfl, trivial⟩ ⟨rfl, trivial⟩
        (Chain.cons (Cert.free rfl (o_fieldAddr (off := 3) 2 .adr (by kernel_rfl) (by rfl))) ⟨rfl, trivial⟩ ⟨rfl, trivial⟩
        (Chain.cons (Cert.free rfl (o_load (ag := false) (sz := 1) 2 .adr (by kernel_rfl) (by kernel_rfl) (by kernel_rfl) (by rfl))) ⟨rfl, trivial⟩ ⟨rfl, trivial⟩
        (Chain.cons (Cert.free rfl (o_add .t (.ci (by kernel_rfl)))) ⟨rfl, trivial⟩ trivial
        (Chain.cons (Cert.free rfl (o_nilCheck 2 .is (by rfl))) ⟨rfl, trivial⟩ ⟨rfl, trivial⟩
        (Chain.cons (Cert.free rfl (o_fieldAddr (off := 3) 2 .adr (by kernel_rfl) (by rfl))) ⟨rfl, trivial⟩ ⟨rfl, trivial⟩
        (Chain.cons (Cert.free rfl (o_store1 2 .adr .t one_int (by kernel_rfl) (by kernel_rfl))) ⟨rfl, rfl, trivial⟩ ⟨rfl, trivial⟩
        Chain.nil))))))))
        (by kernel_rfl) (by rw [hB]; kernel_rfl) ?_
    clear hS; intro a w F hS
    replace hS := hS.norm [(0, _), (2, _), (3, _), (4, _)] [(0, _), (2, _), (3, _), (101, _), (102, _)] ⟨rfl, rfl, rfl, rfl, trivial⟩ ⟨rfl, rfl, rfl, rfl, rfl, trivial⟩
    obtain ⟨F, hS⟩ := hS
    try dsimp only [RS.sub, SF.sub, CF.sub, csub, Anc.sub, stCells, List.map, List.length_cons, List.length_nil, Nat.reduceAdd, List.drop_succ_cons, List.drop_zero, List.drop_nil, List.take_succ_cons, List.take_zero, List.take_nil, List.cons_append, List.nil_append, zCF, ldSF] at hS
    rw [wrap_succ (by omega)] at hS
    refine then_n ?_
    refine wp_seq ?_
    refine region_seq hS (by kernel_rfl)
        (Chain.cons (Cert.free rfl (o_move .t (by rfl))) ⟨rfl, trivial⟩ trivial
        (Chain.cons (Cert.free rfl (o_nilCheck 2 .is (by rfl))) ⟨rfl, trivial⟩ ⟨rfl, trivial⟩
        (Chain.cons (Cert.free rfl (o_fieldAddr (off := 4) 2 .adr (by kernel_rfl) (by rfl))) ⟨rfl, trivial⟩ ⟨rfl, trivial⟩
        (Chain.cons (Cert.free rfl (o_load (ag := false) (sz := 1) 2 .adr (by kernel_rfl) (by kernel_rfl) (by kernel_rfl) (by rfl))) ⟨rfl, trivial⟩ ⟨rfl, trivial⟩
        (Chain.cons (Cert.free rfl (o_sub .t (.ci (by kernel_rfl)))) ⟨rfl, trivial⟩ trivial
        (Chain.cons (Cert.free rfl (o_nilCheck 2 .is (by rfl))) ⟨rfl, trivial⟩ ⟨rfl, trivial⟩
        (Chain.cons (Cert.free rfl (o_fieldAddr (off := 4) 2 .adr (by kernel_rfl) (by rfl))) ⟨rfl, trivial⟩ ⟨rfl, trivial⟩
        (Chain.cons (Cert.free rfl (o_store1 2 .adr .t one_int (by kernel_rfl) (by kernel_rfl))) ⟨rfl, rfl, trivial⟩ ⟨rfl, trivial⟩
        Chain.nil))))))))
        (by kernel_rfl) (by rw [hB]; kernel_rfl) ?_
    clear hS; intro a w F hS
    replace hS := hS.norm [(2, _), (3, _), (4, _)] [(0, _), (2, _), (3, _), (101, _), (102, _)] ⟨rfl, rfl, rfl, trivial⟩ ⟨rfl, rfl, rfl, rfl, rfl, trivial⟩
    obtain ⟨F, hS⟩ := hS
    try dsimp only [RS.sub, SF.sub, CF.sub, csub, Anc.sub, stCells, List.map, List.length_cons, List.length_nil, Nat.reduceAdd, List.drop_succ_cons, List.drop_zero, List.drop_nil, List.take_succ_cons, List.take_zero, List.take_nil, List.cons_append, List.nil_append, zCF, ldSF] at hS
    rw [show IntKind.wrap .i64 ((U.length : Int) - 1) = ((U.length - 1 : Nat) : Int) by rw [wrap_i64 (by omega)]; omega] at hS
    refine then_n ?_
    refine wp_seq ?_
    refine region_seq hS (by kernel_rfl)
        (Chain.cons (Cert.free rfl (o_load (ag := true) (sz := 4) 102 .is (by kernel_rfl) (by kernel_rfl) (by kernel_rfl) (by rfl))) ⟨rfl, trivial⟩ ⟨rfl, trivial⟩
        (Chain.cons (Cert.free rfl (o_storeA (sz := 4) 101 .is .t (by kernel_rfl) (by kernel_rfl) (by kernel_rfl))) ⟨rfl, rfl, trivial⟩ ⟨rfl, trivial⟩
        (Chain.cons (Cert.free rfl (o_assign (.ci (by kernel_rfl)) (by rfl))) trivial trivial
        Chain.nil)))
        (by kernel_rfl) (by rw [hB]; kernel_rfl) ?_
    clear hS; intro a w F hS
    replace hS := hS.norm [(2, _), (3, _)] [(0, _), (2, _), (3, _), (101, _)] ⟨rfl, rfl, trivial⟩ ⟨rfl, rfl, rfl, rfl, trivial⟩
    obtain ⟨F, hS⟩ := hS
    try dsimp only [RS.sub, SF.sub, CF.sub, csub, Anc.sub, stCells, List.map, List.length_cons, List.length_nil, Nat.reduceAdd, List.drop_succ_cons, List.drop_zero, List.drop_nil, List.take_succ_cons, List.take_zero, List.take_nil, List.cons_append, List.nil_append, zCF, ldSF] at hS
    refine then_n ?_
    refine wp_ret ?_
    have hS := hS.fresh 1 rfl
    obtain ⟨F, hS⟩ := hS.push 1 3 rfl rfl rfl (by kernel_rfl)
    obtain ⟨F, hS⟩ := hS.push 1 2 rfl rfl rfl (by kernel_rfl)
    have hS := hS.turn 1 rfl (r' := RS.hp (logH (.pointer (some ⟨b, 0, none⟩)) n (redoL (D, U)).1 (redoL (D, U)).2)) (fun _ _ _ _ h => ⟨_, _, _, (by rw [redo_seq]; exact hI), (by rw [hl1, hl2]; exact h)⟩)
    refine ret_G1 hG hS rfl (.cell (n := 101) (ag := true) (sz := 4) rfl .is rfl (by kernel_rfl) (by kernel_rfl) (by kernel_rfl) (.tmp rfl .nil)) (.two (by rw [hx]; exact .aggU rfl rfl) (.int (by rw [he]))) rfl

theorem undo_nil  : FnP Try.prog 24 [.is (.pointer none)] (.tup [.agg (rDelta noD), .int .i64 15]) := by
  refine FnP.mk Try.func24 rfl Try.ntmps24 rfl ?_
  intro B a w F hB hfr hS
  refine wp_seq ?_
  refine region_seq hS (by kernel_rfl)
      (Chain.cons (Cert.free rfl (o_alloc (zs := [.slice none 0 0, .slice none 0 0, .slice none 0 0, .slice none 0 0]) 101 (by kernel_rfl))) trivial trivial
      (Chain.cons (Cert.free rfl (o_assign (.ci (by kernel_rfl)) (by rfl))) trivial trivial
      Chain.nil))
      (by kernel_rfl) (by rw [hB]; kernel_rfl) ?_
  clear hS; intro a w F hS
  replace hS := hS.sub
  replace hS := hS.norm [(0, _), (2, _), (3, _)] [(0, _), (101, _)] ⟨rfl, rfl, rfl, trivial⟩ ⟨rfl, rfl, trivial⟩
  obtain ⟨F, hS⟩ := hS
  try dsimp only [RS.sub, SF.sub, CF.sub, csub, Anc.sub, stCells, List.map, List.length_cons, List.length_nil, Nat.reduceAdd, List.drop_succ_cons, List.drop_zero, List.drop_nil, List.take_succ_cons, List.take_zero, List.take_nil, List.cons_append, List.nil_append, zCF, ldSF] at hS
  generalize Act.tau a 2 = v2 at hS
  refine then_n ?_
  refine wp_seq ?_
  refine wp_seq ?_
  refine region_seq hS (by kernel_rfl)
      (Chain.cons (Cert.free rfl (o_move .t (by rfl))) ⟨rfl, trivial⟩ trivial
      (Chain.cons (Cert.free rfl (o_callP (len_nil) Try.func29 rfl (by kernel_rfl) (Args.one .t))) ⟨rfl, trivial⟩ trivial
      (Chain.cons (Cert.free rfl (o_eql .t (.ci (by kernel_rfl)))) ⟨rfl, trivial⟩ trivial
      Chain.nil)))
      (by kernel_rfl) (by rw [hB]; kernel_rfl) ?_
  clear hS; intro a w F hS
  replace hS := hS.norm [(0, _), (2, _), (3, _), (6, _)] [(0, _), (101, _)] ⟨rfl, rfl, rfl, rfl, trivial⟩ ⟨rfl, rfl, trivial⟩
  obtain ⟨F, hS⟩ := hS
  try dsimp only [RS.sub, SF.sub, CF.sub, csub, Anc.sub, stCells, List.map, List.length_cons, List.length_nil, Nat.reduceAdd, List.drop_succ_cons, List.drop_zero, List.drop_nil, List.take_succ_cons, List.take_zero, List.take_nil, List.cons_append, List.nil_append, zCF, ldSF] at hS
  refine then_n ?_
  refine cond_b hS rfl (fun hc0 => ?_) (fun hc0 => ?_)
  · skip
    refine wp_seq ?_
    refine region_seq hS (by kernel_rfl)
        (Chain.cons (Cert.free rfl (o_build (r := []) (zs := [.slice none 0 0, .slice none 0 0, .slice none 0 0, .slice none 0 0]) (pl := [(0, 1), (1, 1), (2, 1), (3, 1)]) (by kernel_rfl) (by kernel_rfl) .nil (by rfl))) trivial trivial
        (Chain.cons (Cert.free rfl (o_storeA (sz := 4) 101 .is .t (by kernel_rfl) (by kernel_rfl) (by kernel_rfl))) ⟨rfl, rfl, trivial⟩ ⟨rfl, trivial⟩
        (Chain.cons (Cert.free rfl (o_assign (.ci (by kernel_rfl)) (by rfl))) trivial trivial
        Chain.nil)))
        (by kernel_rfl) (by rw [hB]; kernel_rfl) ?_
    clear hS; intro a w F hS
    replace hS := hS.norm [(0, _), (2, _), (3, _)] [(0, _), (101, _)] ⟨rfl, rfl, rfl, trivial⟩ ⟨rfl, rfl, trivial⟩
    obtain ⟨F, hS⟩ := hS
    try dsimp only [RS.sub, SF.sub, CF.sub, csub, Anc.sub, stCells, List.map, List.length_cons, List.length_nil, Nat.reduceAdd, List.drop_succ_cons, List.drop_zero, List.drop_nil, List.take_succ_cons, List.take_zero, List.take_nil, List.cons_append, List.nil_append, zCF, ldSF] at hS
    refine then_n ?_
    refine wp_ret ?_
    refine then_r ?_
    refine ret_P hfr hS rfl (.cell (n := 101) (ag := true) (sz := 4) rfl .is rfl (by kernel_rfl) (by kernel_rfl) (by kernel_rfl) (.tmp rfl .nil)) (.two (.aggLe rfl noD_le) .refl)
  · skip
    simp at hc0

theorem redo_nil  : FnP Try.prog 26 [.is (.pointer none)] (.tup [.agg (rDelta noD), .int .i64 15]) := by
  refine FnP.mk Try.func26 rfl Try.ntmps26 rfl ?_
  intro B a w F hB hfr hS
  refine wp_seq ?_
  refine region_seq hS (by kernel_rfl)
      (Chain.cons (Cert.free rfl (o_alloc (zs := [.slice none 0 0, .slice none 0 0, .slice none 0 0, .slice none 0 0]) 101 (by kernel_rfl))) trivial trivial
      (Chain.cons (Cert.free rfl (o_assign (.ci (by kernel_rfl)) (by rfl))) trivial trivial
      Chain.nil))
      (by kernel_rfl) (by rw [hB]; kernel_rfl) ?_
  clear hS; intro a w F hS
  replace hS := hS.sub
  replace hS := hS.norm [(0, _), (2, _), (3, _)] [(0, _), (101, _)] ⟨rfl, rfl, rfl, trivial⟩ ⟨rfl, rfl, trivial⟩
  obtain ⟨F, hS⟩ := hS
  try dsimp only [RS.sub, SF.sub, CF.sub, csub, Anc.sub, stCells, List.map, List.length_cons, List.length_nil, Nat.reduceAdd, List.drop_succ_cons, List.drop_zero, List.drop_nil, List.take_succ_cons, List.take_zero, List.take_nil, List.cons_append, List.nil_append, zCF, ldSF] at hS
  generalize Act.tau a 2 = v2 at hS
  refine then_n ?_
  refine wp_seq ?_
  refine wp_seq ?_
  refine region_seq hS (by kernel_rfl)
      (Chain.cons (Cert.free rfl (o_move .t (by rfl))) ⟨rfl, trivial⟩ trivial
      (Chain.cons (Cert.free rfl (o_callP (ahead_nil) Try.func30 rfl (by kernel_rfl) (Args.one .t))) ⟨rfl, trivial⟩ trivial
      (Chain.cons (Cert.free rfl (o_eql .t (.ci (by kernel_rfl)))) ⟨rfl, trivial⟩ trivial
      Chain.nil)))
      (by kernel_rfl) (by rw [hB]; kernel_rfl) ?_
  clear hS; intro a w F hS
  replace hS := hS.norm [(0, _), (2, _), (3, _), (7, _)] [(0, _), (101, _)] ⟨rfl, rfl, rfl, rfl, trivial⟩ ⟨rfl, rfl, trivial⟩
  obtain ⟨F, hS⟩ := hS
  try dsimp only [RS.sub, SF.sub, CF.sub, csub, Anc.sub, stCells, List.map, List.length_cons, List.length_nil, Nat.reduceAdd, List.drop_succ_cons, List.drop_zero, List.drop_nil, List.take_succ_cons, List.take_zero, List.take_nil, List.cons_append, List.nil_append, zCF, ldSF] at hS
  refine then_n ?_
  refine cond_b hS rfl (fun hc0 => ?_) (fun hc0 => ?_)
  · skip
    refine wp_seq ?_
    refine region_seq hS (by kernel_rfl)
        (Chain.cons (Cert.free rfl (o_build (r := []) (zs := [.slice none 0 0, .slice none 0 0, .slice none 0 0, .slice none 0 0]) (pl := [(0, 1), (1, 1), (2, 1), (3, 1)]) (by kernel_rfl) (by kernel_rfl) .nil (by rfl))) trivial trivial
        (Chain.cons (Cert.free rfl (o_storeA (sz := 4) 101 .is .t (by kernel_rfl) (by kernel_rfl) (by kernel_rfl))) ⟨rfl, rfl, trivial⟩ ⟨rfl, trivial⟩
        (Chain.cons (Cert.free rfl (o_assign (.ci (by kernel_rfl)) (by rfl))) trivial trivial
        Chain.nil)))
        (by kernel_rfl) (by rw [hB]; kernel_rfl) ?_
    clear hS; intro a w F hS
    replace hS := hS.norm [(0, _), (2, _), (3, _)] [(0, _), (101, _)] ⟨rfl, rfl, rfl, trivial⟩ ⟨rfl, rfl, trivial⟩
    obtain ⟨F, hS⟩ := hS
    try dsimp only [RS.sub, SF.sub, CF.sub, csub, Anc.sub, stCells, List.map, List.length_cons, List.length_nil, Nat.reduceAdd, List.drop_succ_cons, List.drop_zero, List.drop_nil, List.take_succ_cons, List.take_zero, List.take_nil, List.cons_append, List.nil_append, zCF, ldSF] at hS
    refine then_n ?_
    refine wp_ret ?_
    refine then_r ?_
    refine ret_P hfr hS rfl (.cell (n := 101) (ag := true) (sz := 4) rfl .is rfl (by kernel_rfl) (by kernel_rfl) (by kernel_rfl) (.tmp rfl .nil)) (.two (.aggLe rfl noD_le) .refl)
  · skip
    simp at hc0

def refRoomU (m : Int) : Nat := (if m < 0 then 0 else if m > 4096 then 4096 else m).toNat
theorem refRoomU_le (m : Int) : refRoomU m ≤ 4096 := by unfold refRoomU; split; (· omega); split <;> omega
theorem refRoomU_eq (m : Int) : (if 4096 < (if m < 0 then 0 else m) then 4096 else if m < 0 then 0 else m) = ((refRoomU m : Nat) : Int) := by unfold refRoomU; split <;> split <;> (try split) <;> omega

theorem unew_c (m : Int) : FnG Try.prog 19 1 [.int .i64 m] [.star []] (PV.ptr) (fun v => [logH v (refRoomU m) [] []]) := by
  refine FnG.mk Try.func19 rfl Try.ntmps19 rfl (by kernel_rfl) ?_
  intro B F0 a w F hB hG hS
  have hr := refRoomU_eq m
  refine wp_seq ?_
  refine region_seq hS (by kernel_rfl)
      (Chain.cons (Cert.free rfl (o_assign (.c rfl) (by rfl))) trivial trivial
      Chain.nil)
      (by kernel_rfl) (by rw [hB]; kernel_rfl) ?_
  clear hS; intro a w F hS
  replace hS := hS.norm [(0, _), (2, _)] [(0, _), (1, _)] ⟨rfl, rfl, trivial⟩ ⟨rfl, rfl, trivial⟩
  obtain ⟨F, hS⟩ := hS
  try dsimp only [RS.sub, SF.sub, CF.sub, csub, Anc.sub, stCells, List.map, List.length_cons, List.length_nil, Nat.reduceAdd, List.drop_succ_cons, List.drop_zero, List.drop_nil, List.take_succ_cons, List.take_zero, List.take_nil, List.cons_append, List.nil_append, zCF, ldSF] at hS
  refine then_n ?_
  refine wp_seq ?_
  refine region_seq hS (by kernel_rfl)
      (Chain.cons (Cert.free rfl (o_move .t (by rfl))) ⟨rfl, trivial⟩ trivial
      (Chain.cons (Cert.free rfl (o_max .t (.ci (by kernel_rfl)))) ⟨rfl, trivial⟩ trivial
      (Chain.cons (Cert.free rfl (o_min .t (.ci (by kernel_rfl)))) ⟨rfl, trivial⟩ trivial
      (Chain.cons (Cert.free rfl (o_assign .t (by rfl))) ⟨rfl, trivial⟩ trivial
      Chain.nil))))
      (by kernel_rfl) (by rw [hB]; kernel_rfl) ?_
  clear hS; intro a w F hS
  replace hS := hS.norm [(2, _), (3, _)] [(0, _), (1, _)] ⟨rfl, rfl, trivial⟩ ⟨rfl, rfl, trivial⟩
  obtain ⟨F, hS⟩ := hS
  try dsimp only [RS.sub, SF.sub, CF.sub, csub, Anc.sub, stCells, List.map, List.length_cons, List.length_nil, Nat.reduceAdd, List.drop_succ_cons, List.drop_zero, List.drop_nil, List.take_succ_cons, List.take_zero, List.take_nil, List.cons_append, List.nil_append, zCF, ldSF] at hS
  rw [hr] at hS
  refine then_n ?_
  refine wp_seq ?_
  refine region_seq hS (by kernel_rfl)
      (Chain.cons (Cert.free rfl (o_move .t (by rfl))) ⟨rfl, trivial⟩ trivial
      (Chain.cons (Cert.free rfl (o_move .t (by rfl))) ⟨rfl, trivial⟩ trivial
      (Chain.cons (Cert.free rfl (o_makeSlice (R := rDelta) (v := noD) (c := ((refRoomU m : Nat) : Int)) (sz := 4) (bs := 96) (zs := [.slice none 0 0, .slice none 0 0, .slice none 0 0, .slice none 0 0]) 101 Try.underlying47 (by kernel_rfl) (by kernel_rfl) (by kernel_rfl) noD_zero .t .t (Int.natCast_nonneg _) (by have := refRoomU_le m; omega) (by have := refRoomU_le m; omega))) ⟨rfl, rfl, trivial⟩ trivial
      (Chain.cons (Cert.free rfl (o_build (r := [(0, .tmp 7), (1, .tmp 9)]) (zs := [.int .i64 0, .slice none 0 0, .int .i64 0, .int .i64 0, .int .i64 0]) (pl := [(0, 1), (1, 1), (2, 1), (3, 1), (4, 1)]) (by kernel_rfl) (by kernel_rfl) (.one rfl .t one_int (by kernel_rfl) (.same rfl (by kernel_rfl) .nil)) (by rfl))) ⟨rfl, rfl, trivial⟩ trivial
      (Chain.cons (Cert.free rfl (o_boxA 102 .t (by kernel_rfl))) ⟨rfl, trivial⟩ trivial
      (Chain.cons (Cert.free rfl (o_assign .t (by rfl))) ⟨rfl, trivial⟩ trivial
      Chain.nil))))))
      (by kernel_rfl) (by rw [hB]; kernel_rfl) ?_
  clear hS; intro a w F hS
  replace hS := hS.sub
  replace hS := hS.norm [(2, _)] [(0, _), (1, _), (101, _), (102, _)] ⟨rfl, trivial⟩ ⟨rfl, rfl, rfl, rfl, trivial⟩
  obtain ⟨F, hS⟩ := hS
  try dsimp only [RS.sub, SF.sub, CF.sub, csub, Anc.sub, stCells, List.map, List.length_cons, List.length_nil, Nat.reduceAdd, List.drop_succ_cons, List.drop_zero, List.drop_nil, List.take_succ_cons, List.take_zero, List.take_nil, List.cons_append, List.nil_append, zCF, ldSF] at hS
  generalize Act.tau a 11 = v11 at hS
  generalize Act.tau a 9 = v9 at hS
  rw [Int.toNat_natCast] at hS
  refine then_n ?_
  refine wp_ret ?_
  obtain ⟨b, rfl⟩ := hS.shape 102 rfl
  obtain ⟨F, hS⟩ := hS.push 1 101 rfl rfl rfl (by kernel_rfl)
  obtain ⟨F, hS⟩ := hS.push 1 102 rfl rfl rfl (by kernel_rfl)
  have hS := hS.turn 1 rfl (r' := RS.hp (logH (.pointer (some ⟨b, 0, none⟩)) (refRoomU m) [] [])) (fun _ _ _ _ h => ⟨_, _, _, LogOk.mk0 (refRoomU_le m) noD, h⟩)
  refine ret_N1 (h' := fun v => logH v (refRoomU m) [] []) hG hS rfl (.tmp rfl .nil) (.one .ptr) rfl

end Go.Proofs.Ytmdhidjpnmkmjaa
