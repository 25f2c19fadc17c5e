/- Sorting what is in order. No condition beyond those that each theorem says. -/
import Derived.Test.YtjfelobhdjjgaaaPk3
namespace Go.Proofs.Ytjfelobhdjjgaaa
open Go Go.Gm
set_option linter.unusedVariables false
set_option linter.unusedSimpArgs false
set_option maxHeartbeats 4000000
set_option maxRecDepth 8000

theorem cloneE_c (l : List EdgeD) (hl : l.length ≤ 1000000) : FnG Try.prog 44 1 [.sl rEdge l] [.star []] (PV.oneC) (fun v => [HP.star [.ob (.val v) (rowH 31 4 rEdge l)]]) := by
  refine FnG.mk Try.func44 rfl Try.ntmps44 rfl (by kernel_rfl) ?_
  intro B F0 a w F hB hG hS
  refine wp_seq ?_
  refine region_seq hS (by kernel_rfl)
      (Chain.cons (Cert.free rfl (o_assign (.c rfl) (by rfl))) trivial trivial
      Chain.nil)
      (by kernel_rfl) (by rw [hB]; kernel_rfl) ?_
  clear hS; intro a w F hS
  replace hS := hS.norm [(0, _), (2, _)] [(0, _), (1, _)] ⟨rfl, rfl, trivial⟩ ⟨rfl, rfl, trivial⟩
  obtain ⟨F, hS⟩ := hS
  try dsimp only [RS.sub, SF.sub, CF.sub, csub, Anc.sub, stCells, List.map, List.length_cons, List.length_nil, Nat.reduceAdd, List.drop_succ_cons, List.drop_zero, List.drop_nil, List.take_succ_cons, List.take_zero, List.take_nil, List.cons_append, List.nil_append, zCF, ldSF] at hS
  refine then_n ?_
  refine wp_seq ?_
  refine wp_seq ?_
  refine region_seq hS (by kernel_rfl)
      (Chain.cons (Cert.free rfl (o_move .t (by rfl))) ⟨rfl, trivial⟩ trivial
      (Chain.cons (Cert.free rfl (o_eql_nilsl Try.underlying52 .t)) ⟨rfl, trivial⟩ trivial
      Chain.nil))
      (by kernel_rfl) (by rw [hB]; kernel_rfl) ?_
  clear hS; intro a w F hS
  replace hS := hS.norm [(0, _), (2, _), (4, _)] [(0, _), (1, _)] ⟨rfl, rfl, rfl, trivial⟩ ⟨rfl, rfl, trivial⟩
  obtain ⟨F, hS⟩ := hS
  try dsimp only [RS.sub, SF.sub, CF.sub, csub, Anc.sub, stCells, List.map, List.length_cons, List.length_nil, Nat.reduceAdd, List.drop_succ_cons, List.drop_zero, List.drop_nil, List.take_succ_cons, List.take_zero, List.take_nil, List.cons_append, List.nil_append, zCF, ldSF] at hS
  obtain ⟨β4, hβ4, hS⟩ := hS.pickBool 4 rfl
  replace hS := hS.norm [(0, _), (2, _), (4, _)] [(0, _), (1, _)] ⟨rfl, rfl, rfl, trivial⟩ ⟨rfl, rfl, trivial⟩
  obtain ⟨F, hS⟩ := hS
  refine then_n ?_
  refine cond_b hS rfl (fun hc0 => ?_) (fun hc0 => ?_)
  · skip
    refine wp_seq ?_
    refine region_seq hS (by kernel_rfl)
        (Chain.cons (Cert.free rfl (o_assign (.c rfl) (by rfl))) trivial trivial
        Chain.nil)
        (by kernel_rfl) (by rw [hB]; kernel_rfl) ?_
    clear hS; intro a w F hS
    replace hS := hS.norm [(0, _), (2, _)] [(0, _), (1, _)] ⟨rfl, rfl, trivial⟩ ⟨rfl, rfl, trivial⟩
    obtain ⟨F, hS⟩ := hS
    try dsimp only [RS.sub, SF.sub, CF.sub, csub, Anc.sub, stCells, List.map, List.length_cons, List.length_nil, Nat.reduceAdd, List.drop_succ_cons, List.drop_zero, List.drop_nil, List.take_succ_cons, List.take_zero, List.take_nil, List.cons_append, List.nil_append, zCF, ldSF] at hS
    refine then_n ?_
    refine wp_ret ?_
    refine then_r ?_
    have hl0 : l = [] := hβ4 (by simpa using hc0)
    subst hl0
    replace hS := hS.fresh 50 rfl
    replace hS := hS.turn 50 rfl (nilRow (T := 31) (sz := 4) (R := rEdge))
    obtain ⟨F, hS⟩ := hS.push 1 50 rfl rfl rfl (by kernel_rfl)
    refine ret_N1 (h' := fun v => HP.star [.ob (.val v) (rowH 31 4 rEdge [])]) hG hS rfl (.tmp rfl .nil) (.one .oneC) rfl
  · skip
    refine wp_skip ?_
    refine then_n ?_
    refine wp_seq ?_
    refine region_seq hS (by kernel_rfl)
        (Chain.cons (Cert.free rfl (o_buildSlice0 (R := rEdge) (sz := 4) 101 Try.underlying52 (by kernel_rfl))) trivial trivial
        (Chain.cons (Cert.free rfl (o_move .t (by rfl))) ⟨rfl, trivial⟩ trivial
        (Chain.cons (Cert.free rfl (o_append (sz := 4) (bs := 32) 101 (.mk' Try.underlying52 (by kernel_rfl) (by kernel_rfl)) (by intro x; rfl) .same (.sl .t) (by simp only [List.length_nil]; omega) (by decide))) ⟨rfl, rfl, trivial⟩ ⟨rfl, trivial⟩
        (Chain.cons (Cert.free rfl (o_assign .t (by rfl))) ⟨rfl, trivial⟩ trivial
        Chain.nil))))
        (by kernel_rfl) (by rw [hB]; kernel_rfl) ?_
    clear hS; intro a w F hS
    replace hS := hS.sub
    replace hS := hS.norm [(2, _)] [(0, _), (1, _), (101, _)] ⟨rfl, trivial⟩ ⟨rfl, rfl, rfl, trivial⟩
    obtain ⟨F, hS⟩ := hS
    try dsimp only [RS.sub, SF.sub, CF.sub, csub, Anc.sub, stCells, List.map, List.length_cons, List.length_nil, Nat.reduceAdd, List.drop_succ_cons, List.drop_zero, List.drop_nil, List.take_succ_cons, List.take_zero, List.take_nil, List.cons_append, List.nil_append, zCF, ldSF] at hS
    generalize Act.tau a 7 = v7 at hS
    refine then_n ?_
    refine wp_ret ?_
    obtain ⟨F, hS⟩ := hS.push 1 101 rfl rfl rfl (by kernel_rfl)
    refine ret_N1 (h' := fun v => HP.star [.ob (.val v) (rowH 31 4 rEdge l)]) hG hS rfl (.tmp rfl .nil) (.one .oneC) rfl

theorem len64_c (x : Int) (hx : 0 ≤ x ∧ x < 256) : FnP Try.prog 70 [.int .u64 x] (.any) := by
  refine FnP.mk Try.func70 rfl Try.ntmps70 rfl ?_
  intro B a w F hB hfr hS
  have u8w : IntKind.wrap .u8 x = x := wrap_id ⟨by simp [IntKind.min, IntKind.signed, IntKind.bits]; omega, by simp [IntKind.max, IntKind.signed, IntKind.bits]; omega⟩
  have hx256 : x < (256 : Nat) := by omega
  refine wp_seq ?_
  refine region_seq hS (by kernel_rfl)
      (Chain.cons (Cert.free rfl (o_assign (.ci (by kernel_rfl)) (by rfl))) trivial trivial
      Chain.nil)
      (by kernel_rfl) (by rw [hB]; kernel_rfl) ?_
  clear hS; intro a w F hS
  replace hS := hS.norm [(0, _), (2, _)] [(0, _)] ⟨rfl, rfl, trivial⟩ ⟨rfl, trivial⟩
  obtain ⟨F, hS⟩ := hS
  try dsimp only [RS.sub, SF.sub, CF.sub, csub, Anc.sub, stCells, List.map, List.length_cons, List.length_nil, Nat.reduceAdd, List.drop_succ_cons, List.drop_zero, List.drop_nil, List.take_succ_cons, List.take_zero, List.take_nil, List.cons_append, List.nil_append, zCF, ldSF] at hS
  refine then_n ?_
  refine wp_seq ?_
  refine wp_seq ?_
  refine region_seq hS (by kernel_rfl)
      (Chain.cons (Cert.free rfl (o_move .t (by rfl))) ⟨rfl, trivial⟩ trivial
      (Chain.cons (Cert.free rfl (o_geq .t (.ci (by kernel_rfl)))) ⟨rfl, trivial⟩ trivial
      Chain.nil))
      (by kernel_rfl) (by rw [hB]; kernel_rfl) ?_
  clear hS; intro a w F hS
  replace hS := hS.norm [(0, _), (2, _), (4, _)] [(0, _)] ⟨rfl, rfl, rfl, trivial⟩ ⟨rfl, trivial⟩
  obtain ⟨F, hS⟩ := hS
  try dsimp only [RS.sub, SF.sub, CF.sub, csub, Anc.sub, stCells, List.map, List.length_cons, List.length_nil, Nat.reduceAdd, List.drop_succ_cons, List.drop_zero, List.drop_nil, List.take_succ_cons, List.take_zero, List.take_nil, List.cons_append, List.nil_append, zCF, ldSF] at hS
  refine then_n ?_
  refine cond_b hS rfl (fun hc0 => ?_) (fun hc0 => ?_)
  · skip
    simp at hc0; omega
  · skip
    refine wp_skip ?_
    refine then_n ?_
    refine wp_seq ?_
    refine wp_seq ?_
    refine region_seq hS (by kernel_rfl)
        (Chain.cons (Cert.free rfl (o_move .t (by rfl))) ⟨rfl, trivial⟩ trivial
        (Chain.cons (Cert.free rfl (o_geq .t (.ci (by kernel_rfl)))) ⟨rfl, trivial⟩ trivial
        Chain.nil))
        (by kernel_rfl) (by rw [hB]; kernel_rfl) ?_
    clear hS; intro a w F hS
    replace hS := hS.norm [(0, _), (2, _), (8, _)] [(0, _)] ⟨rfl, rfl, rfl, trivial⟩ ⟨rfl, trivial⟩
    obtain ⟨F, hS⟩ := hS
    try dsimp only [RS.sub, SF.sub, CF.sub, csub, Anc.sub, stCells, List.map, List.length_cons, List.length_nil, Nat.reduceAdd, List.drop_succ_cons, List.drop_zero, List.drop_nil, List.take_succ_cons, List.take_zero, List.take_nil, List.cons_append, List.nil_append, zCF, ldSF] at hS
    refine then_n ?_
    refine cond_b hS rfl (fun hc1 => ?_) (fun hc1 => ?_)
    · skip
      simp at hc1; omega
    · skip
      refine wp_skip ?_
      refine then_n ?_
      refine wp_seq ?_
      refine wp_seq ?_
      refine region_seq hS (by kernel_rfl)
          (Chain.cons (Cert.free rfl (o_move .t (by rfl))) ⟨rfl, trivial⟩ trivial
          (Chain.cons (Cert.free rfl (o_geq .t (.ci (by kernel_rfl)))) ⟨rfl, trivial⟩ trivial
          Chain.nil))
          (by kernel_rfl) (by rw [hB]; kernel_rfl) ?_
      clear hS; intro a w F hS
      replace hS := hS.norm [(0, _), (2, _), (14, _)] [(0, _)] ⟨rfl, rfl, rfl, trivial⟩ ⟨rfl, trivial⟩
      obtain ⟨F, hS⟩ := hS
      try dsimp only [RS.sub, SF.sub, CF.sub, csub, Anc.sub, stCells, List.map, List.length_cons, List.length_nil, Nat.reduceAdd, List.drop_succ_cons, List.drop_zero, List.drop_nil, List.take_succ_cons, List.take_zero, List.take_nil, List.cons_append, List.nil_append, zCF, ldSF] at hS
      refine then_n ?_
      refine cond_b hS rfl (fun hc2 => ?_) (fun hc2 => ?_)
      · skip
        simp at hc2; omega
      · skip
        refine wp_skip ?_
        refine then_n ?_
        refine wp_seq ?_
        refine region_seq hS (by kernel_rfl)
            (Chain.cons (Cert.free rfl (o_move .t (by rfl))) ⟨rfl, trivial⟩ trivial
            (Chain.cons (Cert.free rfl (o_move .t (by rfl))) ⟨rfl, trivial⟩ trivial
            (Chain.cons (Cert.free rfl (o_conv Try.underlying5 (by kernel_rfl) .t)) ⟨rfl, trivial⟩ trivial
            (Chain.cons (Cert.free rfl (o_index_bs Try.underlying9 (.cs (by kernel_rfl)) .t (by rw [u8w]; omega) (by rw [u8w]; exact hx256))) ⟨rfl, trivial⟩ trivial
            (Chain.cons (Cert.free rfl (o_conv Try.underlying3 (by kernel_rfl) .t)) ⟨rfl, trivial⟩ trivial
            (Chain.cons (Cert.free rfl (o_add .t .t)) ⟨rfl, rfl, trivial⟩ trivial
            (Chain.cons (Cert.free rfl (o_assign .t (by rfl))) ⟨rfl, trivial⟩ trivial
            Chain.nil)))))))
            (by kernel_rfl) (by rw [hB]; kernel_rfl) ?_
        clear hS; intro a w F hS
        replace hS := hS.norm [(2, _)] [(0, _)] ⟨rfl, trivial⟩ ⟨rfl, trivial⟩
        obtain ⟨F, hS⟩ := hS
        try dsimp only [RS.sub, SF.sub, CF.sub, csub, Anc.sub, stCells, List.map, List.length_cons, List.length_nil, Nat.reduceAdd, List.drop_succ_cons, List.drop_zero, List.drop_nil, List.take_succ_cons, List.take_zero, List.take_nil, List.cons_append, List.nil_append, zCF, ldSF] at hS
        refine then_n ?_
        refine wp_ret ?_
        refine ret_P hfr hS rfl (.tmp rfl .nil) (.one .any)

theorem len_c (x : Int) (hx : 0 ≤ x ∧ x < 256) : FnP Try.prog 57 [.int .u64 x] (.any) := by
  refine FnP.mk Try.func57 rfl Try.ntmps57 rfl ?_
  intro B a w F hB hfr hS
  refine wp_seq ?_
  refine region_seq hS (by kernel_rfl)
      (Chain.cons (Cert.free rfl (o_assign (.ci (by kernel_rfl)) (by rfl))) trivial trivial
      Chain.nil)
      (by kernel_rfl) (by rw [hB]; kernel_rfl) ?_
  clear hS; intro a w F hS
  replace hS := hS.norm [(0, _), (2, _)] [(0, _)] ⟨rfl, rfl, trivial⟩ ⟨rfl, trivial⟩
  obtain ⟨F, hS⟩ := hS
  try dsimp only [RS.sub, SF.sub, CF.sub, csub, Anc.sub, stCells, List.map, List.length_cons, List.length_nil, Nat.reduceAdd, List.drop_succ_cons, List.drop_zero, List.drop_nil, List.take_succ_cons, List.take_zero, List.take_nil, List.cons_append, List.nil_append, zCF, ldSF] at hS
  refine then_n ?_
  refine wp_seq ?_
  refine wp_cond (by rfl) ?_
  refine wp_skip ?_
  refine then_n ?_
  refine wp_seq ?_
  refine region_seq hS (by kernel_rfl)
      (Chain.cons (Cert.free rfl (o_move .t (by rfl))) ⟨rfl, trivial⟩ trivial
      (Chain.cons (Cert.free rfl (o_callP (len64_c x hx) Try.func70 rfl (by kernel_rfl) (Args.one .t))) ⟨rfl, trivial⟩ trivial
      (Chain.cons (Cert.free rfl (o_assign .t (by rfl))) ⟨rfl, trivial⟩ trivial
      Chain.nil)))
      (by kernel_rfl) (by rw [hB]; kernel_rfl) ?_
  clear hS; intro a w F hS
  replace hS := hS.norm [(2, _)] [(0, _)] ⟨rfl, trivial⟩ ⟨rfl, trivial⟩
  obtain ⟨F, hS⟩ := hS
  try dsimp only [RS.sub, SF.sub, CF.sub, csub, Anc.sub, stCells, List.map, List.length_cons, List.length_nil, Nat.reduceAdd, List.drop_succ_cons, List.drop_zero, List.drop_nil, List.take_succ_cons, List.take_zero, List.take_nil, List.cons_append, List.nil_append, zCF, ldSF] at hS
  refine then_n ?_
  refine wp_ret ?_
  refine ret_P hfr hS rfl (.tmp rfl .nil) (.one .any)

theorem insert_c (v : Value) (l : List EdgeD) (hl : l.length ≤ 12) (hs : ∀ j, 0 < j → j < l.length → ¬ cmpE (Go.Gm.nth l j) (Go.Gm.nth l (j - 1)) < 0) : FnG Try.prog 61 1 [.is v, .int .i64 0, .int .i64 l.length, .is (.func (.func 46) #[] #[])] [rowH 31 4 rEdge l v] (.tup []) (fun _ => [rowH 31 4 rEdge l v]) := by
  refine FnG.mk Try.func61 rfl Try.ntmps61 rfl (by kernel_rfl) ?_
  intro B F0 a w F hB hG hS
  have hS := hS.turn 1 rfl (r' := RS.ob (.val v) (rowH 31 4 rEdge l)) (fun _ _ _ _ h => h)
  obtain ⟨F, hS⟩ := hS.norm [(0, _), (1, _), (2, _), (3, _)] [(0, _), (1, _)] ⟨rfl, rfl, rfl, rfl, trivial⟩ ⟨rfl, rfl, trivial⟩
  refine wp_seq ?_
  refine region_seq hS (by kernel_rfl)
      (Chain.cons (Cert.free rfl (o_move .t (by rfl))) ⟨rfl, trivial⟩ trivial
      (Chain.cons (Cert.free rfl (o_add .t (.ci (by kernel_rfl)))) ⟨rfl, trivial⟩ trivial
      (Chain.cons (Cert.free rfl (o_assign .t (by rfl))) ⟨rfl, trivial⟩ trivial
      Chain.nil)))
      (by kernel_rfl) (by rw [hB]; kernel_rfl) ?_
  clear hS; intro a w F hS
  replace hS := hS.norm [(0, _), (1, _), (2, _), (3, _), (8, _)] [(0, _), (1, _)] ⟨rfl, rfl, rfl, rfl, rfl, trivial⟩ ⟨rfl, rfl, trivial⟩
  obtain ⟨F, hS⟩ := hS
  try dsimp only [RS.sub, SF.sub, CF.sub, csub, Anc.sub, stCells, List.map, List.length_cons, List.length_nil, Nat.reduceAdd, List.drop_succ_cons, List.drop_zero, List.drop_nil, List.take_succ_cons, List.take_zero, List.take_nil, List.cons_append, List.nil_append, zCF, ldSF] at hS
  refine then_n ?_
  refine wp_block ?_
  replace hS := hS.ent (i := 8) (s' := .pv (.int .i64 ((1 : Nat) : Int))) rfl (.int (by decide))
  replace hS := hS.norm [(0, _), (1, _), (2, _), (3, _), (8, _)] [(0, _), (1, _)] ⟨rfl, rfl, rfl, rfl, rfl, trivial⟩ ⟨rfl, rfl, trivial⟩
  obtain ⟨F, hS⟩ := hS
  refine loop_inv (σ := Nat) (fun s => (⟨[(0, .pv (.is v)), (1, .pv (.int .i64 0)), (2, .pv (.int .i64 l.length)), (3, .pv (.is (.func (.func 46) #[] #[]))), (8, .pv (.int .i64 s))], [(0, frame B), (1, .ob (.val v) (rowH 31 4 rEdge l))]⟩ : En)) (fun s => 1 ≤ s ∧ s ≤ 13) (fun s => 13 - s) 1 hS ⟨by decide, by decide⟩ ?_
  clear hS; intro i a w F hC hS
  try dsimp only at hC
  try dsimp only at hS
  obtain ⟨hi1, hi2⟩ := hC
  have hw : IntKind.wrap .i64 ((i : Int) - 1) = ((i - 1 : Nat) : Int) := by rw [wrap_i64 (by omega)]; omega
  refine wp_seq ?_
  refine wp_seq ?_
  refine region_seq hS (by kernel_rfl)
      (Chain.cons (Cert.free rfl (o_move .t (by rfl))) ⟨rfl, trivial⟩ trivial
      (Chain.cons (Cert.free rfl (o_move .t (by rfl))) ⟨rfl, trivial⟩ trivial
      (Chain.cons (Cert.free rfl (o_lss .t .t)) ⟨rfl, rfl, trivial⟩ trivial
      Chain.nil)))
      (by kernel_rfl) (by rw [hB]; kernel_rfl) ?_
  clear hS; intro a w F hS
  replace hS := hS.norm [(0, _), (1, _), (2, _), (3, _), (8, _), (12, _), (13, _), (14, _)] [(0, _), (1, _)] ⟨rfl, rfl, rfl, rfl, rfl, rfl, rfl, rfl, trivial⟩ ⟨rfl, rfl, trivial⟩
  obtain ⟨F, hS⟩ := hS
  try dsimp only [RS.sub, SF.sub, CF.sub, csub, Anc.sub, stCells, List.map, List.length_cons, List.length_nil, Nat.reduceAdd, List.drop_succ_cons, List.drop_zero, List.drop_nil, List.take_succ_cons, List.take_zero, List.take_nil, List.cons_append, List.nil_append, zCF, ldSF] at hS
  refine then_n ?_
  refine cond_b hS rfl (fun hc0 => ?_) (fun hc0 => ?_)
  · skip
    have hil : i < l.length := by simp at hc0; omega
    refine wp_skip ?_
    refine then_n ?_
    refine wp_seq ?_
    refine wp_block ?_
    refine wp_seq ?_
    refine region_seq hS (by kernel_rfl)
        (Chain.cons (Cert.free rfl (o_move .t (by rfl))) ⟨rfl, trivial⟩ trivial
        (Chain.cons (Cert.free rfl (o_assign .t (by rfl))) ⟨rfl, trivial⟩ trivial
        Chain.nil))
        (by kernel_rfl) (by rw [hB]; kernel_rfl) ?_
    clear hS; intro a w F hS
    replace hS := hS.norm [(0, _), (1, _), (2, _), (3, _), (8, _), (9, _), (12, _), (13, _), (14, _), (17, _)] [(0, _), (1, _)] ⟨rfl, rfl, rfl, rfl, rfl, rfl, rfl, rfl, rfl, rfl, trivial⟩ ⟨rfl, rfl, trivial⟩
    obtain ⟨F, hS⟩ := hS
    try dsimp only [RS.sub, SF.sub, CF.sub, csub, Anc.sub, stCells, List.map, List.length_cons, List.length_nil, Nat.reduceAdd, List.drop_succ_cons, List.drop_zero, List.drop_nil, List.take_succ_cons, List.take_zero, List.take_nil, List.cons_append, List.nil_append, zCF, ldSF] at hS
    refine then_n ?_
    refine wp_block ?_
    replace hS := hS.norm [(0, _), (1, _), (2, _), (3, _), (8, _), (9, _)] [(0, _), (1, _)] ⟨rfl, rfl, rfl, rfl, rfl, rfl, trivial⟩ ⟨rfl, rfl, trivial⟩
    obtain ⟨F, hS⟩ := hS
    refine loop_inv (σ := Unit) (fun s => (⟨[(0, .pv (.is v)), (1, .pv (.int .i64 0)), (2, .pv (.int .i64 l.length)), (3, .pv (.is (.func (.func 46) #[] #[]))), (8, .pv (.int .i64 i)), (9, .pv (.int .i64 i))], [(0, frame B), (1, .ob (.val v) (rowH 31 4 rEdge l))]⟩ : En)) (fun s => True) (fun s => 0) () hS trivial ?_
    clear hS; intro u a w F hC hS
    try dsimp only at hC
    try dsimp only at hS
    refine wp_seq ?_
    refine wp_seq ?_
    refine region_any (by kernel_rfl) hS (by kernel_rfl)
        (Chain.cons (Cert.free rfl (o_move .t (by rfl))) ⟨rfl, trivial⟩ trivial
        (Chain.cons (Cert.free rfl (o_move .t (by rfl))) ⟨rfl, trivial⟩ trivial
        (Chain.cons (Cert.free rfl (o_gtr .t .t)) ⟨rfl, rfl, trivial⟩ trivial
        (Chain.cons (Cert.free rfl (o_move .t (by rfl))) ⟨rfl, trivial⟩ trivial
        (Chain.cons (Cert.cond rfl rfl (fun h => o_move .t (by rfl))) ⟨rfl, rfl, trivial⟩ trivial
        (Chain.cons (Cert.cond rfl rfl (fun h => o_move .t (by rfl))) ⟨rfl, rfl, trivial⟩ trivial
        (Chain.cons (Cert.cond rfl rfl (fun h => o_move .t (by rfl))) ⟨rfl, rfl, trivial⟩ trivial
        (Chain.cons (Cert.cond rfl rfl (fun h => o_indexAddr_row (sz := 4) 1 (.mk Try.underlying52 (by kernel_rfl)) (.w h .is) (.w h) (by omega) (by omega) (by rfl))) ⟨rfl, rfl, rfl, trivial⟩ ⟨rfl, trivial⟩
        (Chain.cons (Cert.cond rfl rfl (fun h => o_load_row0 (ag := true) (sz' := 4) (sz := 4) 1 (.w h) (by intro x; rfl) (by omega) (by kernel_rfl) (by kernel_rfl) (by kernel_rfl))) ⟨rfl, rfl, trivial⟩ ⟨rfl, trivial⟩
        (Chain.cons (Cert.cond rfl rfl (fun h => o_move .t (by rfl))) ⟨rfl, rfl, trivial⟩ trivial
        (Chain.cons (Cert.cond rfl rfl (fun h => o_move .t (by rfl))) ⟨rfl, rfl, trivial⟩ trivial
        (Chain.cons (Cert.cond rfl rfl (fun h => o_sub (.w h) (.ci (by kernel_rfl)))) ⟨rfl, rfl, trivial⟩ trivial
        (Chain.cons (Cert.cond rfl rfl (fun h => o_indexAddr_row (sz := 4) 1 (.mk Try.underlying52 (by kernel_rfl)) (.w h .is) (.w h) (by rw [hw]; omega) (by rw [hw]; omega) (by rfl))) ⟨rfl, rfl, rfl, trivial⟩ ⟨rfl, trivial⟩
        (Chain.cons (Cert.cond rfl rfl (fun h => o_load_row0 (ag := true) (sz' := 4) (sz := 4) 1 (.w h) (by intro x; rfl) (by rw [hw]; omega) (by kernel_rfl) (by kernel_rfl) (by kernel_rfl))) ⟨rfl, rfl, trivial⟩ ⟨rfl, trivial⟩
        (Chain.cons (Cert.cond rfl rfl (fun h => o_callPV (.w h) (compare_c _ _) Try.func46 rfl (by kernel_rfl) (Args.two (.pagg (.w h)) (.pagg (.w h))))) ⟨rfl, rfl, rfl, rfl, trivial⟩ trivial
        (Chain.cons (Cert.cond rfl rfl (fun h => o_lss (.w h) (.ci (by kernel_rfl)))) ⟨rfl, rfl, trivial⟩ trivial
        (Chain.cons (Cert.free rfl (o_and2 .t .t)) ⟨rfl, rfl, trivial⟩ trivial
        Chain.nil)))))))))))))))))
        (by kernel_rfl) (by rw [hB]; kernel_rfl) ?_
    clear hS; intro a w F hS
    replace hS := hS.norm [(0, _), (1, _), (2, _), (3, _), (8, _), (9, _), (18, _), (19, _), (20, _), (21, _), (22, _), (23, _), (24, _), (25, _), (26, _), (27, _), (28, _), (29, _), (30, _), (31, _), (32, _), (33, _), (34, _)] [(0, _), (1, _)] ⟨rfl, rfl, rfl, rfl, rfl, rfl, rfl, rfl, rfl, rfl, rfl, rfl, rfl, rfl, rfl, rfl, rfl, rfl, rfl, rfl, rfl, rfl, rfl, trivial⟩ ⟨rfl, rfl, trivial⟩
    obtain ⟨F, hS⟩ := hS
    try dsimp only [RS.sub, SF.sub, CF.sub, csub, Anc.sub, stCells, List.map, List.length_cons, List.length_nil, Nat.reduceAdd, List.drop_succ_cons, List.drop_zero, List.drop_nil, List.take_succ_cons, List.take_zero, List.take_nil, List.cons_append, List.nil_append, zCF, ldSF] at hS
    refine then_n ?_
    refine cond_b hS rfl (fun hc1 => ?_) (fun hc1 => ?_)
    · skip
      simp only [Bool.and_eq_true, decide_eq_true_eq, Int.toNat_natCast, hw] at hc1
      exact (hs i (by omega) (by omega) hc1.2).elim
    · skip
      refine wp_exit ?_
      refine then_x ?_
      refine then_x ?_
      refine block_x ?_
      refine block_n ?_
      refine then_n ?_
      refine region_seq hS (by kernel_rfl)
          (Chain.cons (Cert.free rfl (o_move .t (by rfl))) ⟨rfl, trivial⟩ trivial
          (Chain.cons (Cert.free rfl (o_add .t (.ci (by kernel_rfl)))) ⟨rfl, trivial⟩ trivial
          (Chain.cons (Cert.free rfl (o_assign .t (by rfl))) ⟨rfl, trivial⟩ trivial
          Chain.nil)))
          (by kernel_rfl) (by rw [hB]; kernel_rfl) ?_
      clear hS; intro a w F hS
      replace hS := hS.norm [(0, _), (1, _), (2, _), (3, _), (8, _), (9, _), (15, _), (16, _), (18, _), (19, _), (20, _), (21, _), (22, _), (23, _), (24, _), (25, _), (26, _), (27, _), (28, _), (29, _), (30, _), (31, _), (32, _), (33, _), (34, _)] [(0, _), (1, _)] ⟨rfl, rfl, rfl, rfl, rfl, rfl, rfl, rfl, rfl, rfl, rfl, rfl, rfl, rfl, rfl, rfl, rfl, rfl, rfl, rfl, rfl, rfl, rfl, rfl, rfl, trivial⟩ ⟨rfl, rfl, trivial⟩
      obtain ⟨F, hS⟩ := hS
      try dsimp only [RS.sub, SF.sub, CF.sub, csub, Anc.sub, stCells, List.map, List.length_cons, List.length_nil, Nat.reduceAdd, List.drop_succ_cons, List.drop_zero, List.drop_nil, List.take_succ_cons, List.take_zero, List.take_nil, List.cons_append, List.nil_append, zCF, ldSF] at hS
      refine then_n ?_
      replace hS := hS.ent (i := 8) (s' := .pv (.int .i64 ((i + 1 : Nat) : Int))) rfl (.int (wrap_succ (by omega)))
      replace hS := hS.norm [(0, _), (1, _), (2, _), (3, _), (8, _)] [(0, _), (1, _)] ⟨rfl, rfl, rfl, rfl, rfl, trivial⟩ ⟨rfl, rfl, trivial⟩
      obtain ⟨F, hS⟩ := hS
      exact ⟨i + 1, F, ⟨by omega, by omega⟩, hS, by omega⟩
  · skip
    refine wp_exit ?_
    refine then_x ?_
    refine then_x ?_
    refine block_x ?_
    have hS := hS.turn 1 rfl (r' := RS.hp (rowH 31 4 rEdge l v)) (fun _ _ _ _ h => h)
    refine ret_G1 hG hS rfl .nil Tells.none rfl

theorem pdq_c (v : Value) (l : List EdgeD) (hl : l.length ≤ 12) (hs : ∀ j, 0 < j → j < l.length → ¬ cmpE (Go.Gm.nth l j) (Go.Gm.nth l (j - 1)) < 0) : FnG Try.prog 56 1 [.is v, .int .i64 0, .int .i64 l.length, .any, .is (.func (.func 46) #[] #[])] [rowH 31 4 rEdge l v] (.tup []) (fun _ => [rowH 31 4 rEdge l v]) := by
  refine FnG.mk Try.func56 rfl Try.ntmps56 rfl (by kernel_rfl) ?_
  intro B F0 a w F hB hG hS
  have hS := hS.turn 1 rfl (r' := RS.ob (.val v) (rowH 31 4 rEdge l)) (fun _ _ _ _ h => h)
  obtain ⟨F, hS⟩ := hS.norm [(0, _), (1, _), (2, _), (3, _), (4, _)] [(0, _), (1, _)] ⟨rfl, rfl, rfl, rfl, rfl, trivial⟩ ⟨rfl, rfl, trivial⟩
  refine wp_seq ?_
  refine region_seq hS (by kernel_rfl)
      (Chain.cons (Cert.free rfl (o_assign .cb (by rfl))) trivial trivial
      Chain.nil)
      (by kernel_rfl) (by rw [hB]; kernel_rfl) ?_
  clear hS; intro a w F hS
  replace hS := hS.norm [(0, _), (1, _), (2, _), (3, _), (4, _), (10, _)] [(0, _), (1, _)] ⟨rfl, rfl, rfl, rfl, rfl, rfl, trivial⟩ ⟨rfl, rfl, trivial⟩
  obtain ⟨F, hS⟩ := hS
  try dsimp only [RS.sub, SF.sub, CF.sub, csub, Anc.sub, stCells, List.map, List.length_cons, List.length_nil, Nat.reduceAdd, List.drop_succ_cons, List.drop_zero, List.drop_nil, List.take_succ_cons, List.take_zero, List.take_nil, List.cons_append, List.nil_append, zCF, ldSF] at hS
  refine then_n ?_
  refine wp_seq ?_
  refine region_seq hS (by kernel_rfl)
      (Chain.cons (Cert.free rfl (o_assign .cb (by rfl))) trivial trivial
      Chain.nil)
      (by kernel_rfl) (by rw [hB]; kernel_rfl) ?_
  clear hS; intro a w F hS
  replace hS := hS.norm [(0, _), (1, _), (2, _), (3, _), (4, _), (10, _), (11, _)] [(0, _), (1, _)] ⟨rfl, rfl, rfl, rfl, rfl, rfl, rfl, trivial⟩ ⟨rfl, rfl, trivial⟩
  obtain ⟨F, hS⟩ := hS
  try dsimp only [RS.sub, SF.sub, CF.sub, csub, Anc.sub, stCells, List.map, List.length_cons, List.length_nil, Nat.reduceAdd, List.drop_succ_cons, List.drop_zero, List.drop_nil, List.take_succ_cons, List.take_zero, List.take_nil, List.cons_append, List.nil_append, zCF, ldSF] at hS
  refine then_n ?_
  refine wp_block ?_
  replace hS := hS.norm [(0, _), (1, _), (2, _), (4, _)] [(0, _), (1, _)] ⟨rfl, rfl, rfl, rfl, trivial⟩ ⟨rfl, rfl, trivial⟩
  obtain ⟨F, hS⟩ := hS
  refine loop_inv (σ := Unit) (fun s => (⟨[(0, .pv (.is v)), (1, .pv (.int .i64 0)), (2, .pv (.int .i64 l.length)), (4, .pv (.is (.func (.func 46) #[] #[])))], [(0, frame B), (1, .ob (.val v) (rowH 31 4 rEdge l))]⟩ : En)) (fun s => True) (fun s => 0) () hS trivial ?_
  clear hS; intro u a w F hC hS
  try dsimp only at hC
  try dsimp only at hS
  refine wp_block ?_
  refine wp_seq ?_
  refine region_seq hS (by kernel_rfl)
      (Chain.cons (Cert.free rfl (o_move .t (by rfl))) ⟨rfl, trivial⟩ trivial
      (Chain.cons (Cert.free rfl (o_move .t (by rfl))) ⟨rfl, trivial⟩ trivial
      (Chain.cons (Cert.free rfl (o_sub .t .t)) ⟨rfl, rfl, trivial⟩ trivial
      (Chain.cons (Cert.free rfl (o_assign .t (by rfl))) ⟨rfl, trivial⟩ trivial
      Chain.nil))))
      (by kernel_rfl) (by rw [hB]; kernel_rfl) ?_
  clear hS; intro a w F hS
  replace hS := hS.norm [(0, _), (1, _), (2, _), (4, _), (12, _), (21, _), (22, _), (23, _)] [(0, _), (1, _)] ⟨rfl, rfl, rfl, rfl, rfl, rfl, rfl, rfl, trivial⟩ ⟨rfl, rfl, trivial⟩
  obtain ⟨F, hS⟩ := hS
  try dsimp only [RS.sub, SF.sub, CF.sub, csub, Anc.sub, stCells, List.map, List.length_cons, List.length_nil, Nat.reduceAdd, List.drop_succ_cons, List.drop_zero, List.drop_nil, List.take_succ_cons, List.take_zero, List.take_nil, List.cons_append, List.nil_append, zCF, ldSF] at hS
  skip
  refine then_n ?_
  refine wp_seq ?_
  refine wp_seq ?_
  refine region_seq hS (by kernel_rfl)
      (Chain.cons (Cert.free rfl (o_move .t (by rfl))) ⟨rfl, trivial⟩ trivial
      (Chain.cons (Cert.free rfl (o_leq .t (.ci (by kernel_rfl)))) ⟨rfl, trivial⟩ trivial
      Chain.nil))
      (by kernel_rfl) (by rw [hB]; kernel_rfl) ?_
  clear hS; intro a w F hS
  replace hS := hS.norm [(0, _), (1, _), (2, _), (4, _), (12, _), (21, _), (22, _), (23, _), (24, _), (25, _)] [(0, _), (1, _)] ⟨rfl, rfl, rfl, rfl, rfl, rfl, rfl, rfl, rfl, rfl, trivial⟩ ⟨rfl, rfl, trivial⟩
  obtain ⟨F, hS⟩ := hS
  try dsimp only [RS.sub, SF.sub, CF.sub, csub, Anc.sub, stCells, List.map, List.length_cons, List.length_nil, Nat.reduceAdd, List.drop_succ_cons, List.drop_zero, List.drop_nil, List.take_succ_cons, List.take_zero, List.take_nil, List.cons_append, List.nil_append, zCF, ldSF] at hS
  refine then_n ?_
  refine cond_b hS rfl (fun hc0 => ?_) (fun hc0 => ?_)
  · skip
    refine wp_seq ?_
    refine region_seq hS (by kernel_rfl)
        (Chain.cons (Cert.free rfl (o_move .t (by rfl))) ⟨rfl, trivial⟩ trivial
        (Chain.cons (Cert.free rfl (o_move .t (by rfl))) ⟨rfl, trivial⟩ trivial
        (Chain.cons (Cert.free rfl (o_move .t (by rfl))) ⟨rfl, trivial⟩ trivial
        (Chain.cons (Cert.free rfl (o_move .t (by rfl))) ⟨rfl, trivial⟩ trivial
        (Chain.cons (Cert.free rfl (o_callRow 1 (insert_c v l hl hs) Try.func61 rfl (by kernel_rfl) (Args.four .t .t .t .t))) ⟨rfl, rfl, rfl, rfl, trivial⟩ ⟨rfl, trivial⟩
        Chain.nil)))))
        (by kernel_rfl) (by rw [hB]; kernel_rfl) ?_
    clear hS; intro a w F hS
    replace hS := hS.norm [(0, _), (1, _), (2, _), (4, _), (12, _), (21, _), (22, _), (23, _), (24, _), (25, _), (26, _), (27, _), (28, _), (29, _)] [(0, _), (1, _)] ⟨rfl, rfl, rfl, rfl, rfl, rfl, rfl, rfl, rfl, rfl, rfl, rfl, rfl, rfl, trivial⟩ ⟨rfl, rfl, trivial⟩
    obtain ⟨F, hS⟩ := hS
    try dsimp only [RS.sub, SF.sub, CF.sub, csub, Anc.sub, stCells, List.map, List.length_cons, List.length_nil, Nat.reduceAdd, List.drop_succ_cons, List.drop_zero, List.drop_nil, List.take_succ_cons, List.take_zero, List.take_nil, List.cons_append, List.nil_append, zCF, ldSF] at hS
    refine then_n ?_
    refine wp_ret ?_
    refine then_r ?_
    refine block_r ?_
    refine then_r ?_
    refine block_r ?_
    have hS := hS.turn 1 rfl (r' := RS.hp (rowH 31 4 rEdge l v)) (fun _ _ _ _ h => h)
    refine ret_G1 hG hS rfl .nil Tells.none rfl
  · skip
    rw [wrap_i64 (by omega)] at hc0
    simp at hc0
    omega

theorem sortFunc_c (v : Value) (l : List EdgeD) (hl : l.length ≤ 12) (hs : ∀ j, 0 < j → j < l.length → ¬ cmpE (Go.Gm.nth l j) (Go.Gm.nth l (j - 1)) < 0) : FnG Try.prog 45 1 [.is v, .is (.func (.func 46) #[] #[])] [rowH 31 4 rEdge l v] (.tup []) (fun _ => [rowH 31 4 rEdge l v]) := by
  refine FnG.mk Try.func45 rfl Try.ntmps45 rfl (by kernel_rfl) ?_
  intro B F0 a w F hB hG hS
  have hS := hS.turn 1 rfl (r' := RS.ob (.val v) (rowH 31 4 rEdge l)) (fun _ _ _ _ h => h)
  obtain ⟨F, hS⟩ := hS.norm [(0, _), (1, _)] [(0, _), (1, _)] ⟨rfl, rfl, trivial⟩ ⟨rfl, rfl, trivial⟩
  refine wp_seq ?_
  refine region_seq hS (by kernel_rfl)
      (Chain.cons (Cert.free rfl (o_move .t (by rfl))) ⟨rfl, trivial⟩ trivial
      (Chain.cons (Cert.free rfl (o_len_row 1 Try.underlying52 .is)) ⟨rfl, trivial⟩ ⟨rfl, trivial⟩
      (Chain.cons (Cert.free rfl (o_assign .t (by rfl))) ⟨rfl, trivial⟩ trivial
      Chain.nil)))
      (by kernel_rfl) (by rw [hB]; kernel_rfl) ?_
  clear hS; intro a w F hS
  replace hS := hS.norm [(0, _), (1, _), (4, _)] [(0, _), (1, _)] ⟨rfl, rfl, rfl, trivial⟩ ⟨rfl, rfl, trivial⟩
  obtain ⟨F, hS⟩ := hS
  try dsimp only [RS.sub, SF.sub, CF.sub, csub, Anc.sub, stCells, List.map, List.length_cons, List.length_nil, Nat.reduceAdd, List.drop_succ_cons, List.drop_zero, List.drop_nil, List.take_succ_cons, List.take_zero, List.take_nil, List.cons_append, List.nil_append, zCF, ldSF] at hS
  have hxl : 0 ≤ IntKind.wrap .u64 (l.length : Int) ∧ IntKind.wrap .u64 (l.length : Int) < 256 := by rw [u64_wrap]; omega
  refine then_n ?_
  refine region_seq hS (by kernel_rfl)
      (Chain.cons (Cert.free rfl (o_move .t (by rfl))) ⟨rfl, trivial⟩ trivial
      (Chain.cons (Cert.free rfl (o_move .t (by rfl))) ⟨rfl, trivial⟩ trivial
      (Chain.cons (Cert.free rfl (o_move .t (by rfl))) ⟨rfl, trivial⟩ trivial
      (Chain.cons (Cert.free rfl (o_conv Try.underlying73 (by kernel_rfl) .t)) ⟨rfl, trivial⟩ trivial
      (Chain.cons (Cert.free rfl (o_callP (len_c _ hxl) Try.func57 rfl (by kernel_rfl) (Args.one .t))) ⟨rfl, trivial⟩ trivial
      (Chain.cons (Cert.free rfl (o_move .t (by rfl))) ⟨rfl, trivial⟩ trivial
      (Chain.cons (Cert.free rfl (o_callRow 1 (pdq_c v l hl hs) Try.func56 rfl (by kernel_rfl) (Args.five .t (.ci (by kernel_rfl)) .t .t .t))) ⟨rfl, rfl, rfl, rfl, trivial⟩ ⟨rfl, trivial⟩
      Chain.nil)))))))
      (by kernel_rfl) (by rw [hB]; kernel_rfl) ?_
  clear hS; intro a w F hS
  replace hS := hS.norm [] [(0, _), (1, _)] trivial ⟨rfl, rfl, trivial⟩
  obtain ⟨F, hS⟩ := hS
  try dsimp only [RS.sub, SF.sub, CF.sub, csub, Anc.sub, stCells, List.map, List.length_cons, List.length_nil, Nat.reduceAdd, List.drop_succ_cons, List.drop_zero, List.drop_nil, List.take_succ_cons, List.take_zero, List.take_nil, List.cons_append, List.nil_append, zCF, ldSF] at hS
  have hS := hS.turn 1 rfl (r' := RS.hp (rowH 31 4 rEdge l v)) (fun _ _ _ _ h => h)
  refine ret_G1 hG hS rfl .nil Tells.none rfl

end Go.Proofs.Ytjfelobhdjjgaaa
