/- The arena's functions: ArenaPlays. No condition beyond those that each says. -/
import Derived.Test.YtingoafbkbccnaaAr3
namespace Go.Proofs.Ytingoafbkbccnaa
open Go Go.Gm
set_option linter.unusedVariables false
set_option linter.unusedSimpArgs false
set_option maxHeartbeats 4000000

structure Deed where
  kind : Int
  c : Cell
  n : Int
  deriving DecidableEq, Inhabited
def rDeed (d : Deed) : List PV := [.int .i64 d.kind, .int .i64 d.c.left, .int .i64 d.c.right, .int .i64 d.c.key, .int .i64 d.c.val, .int .i64 d.c.size, .int .i64 d.c.high, .int .i64 d.n]
theorem ArOk.putL {room : Int} {q : List Cell} (h : ArOk room q) (c : Cell) : ArOk room (putL room q c).1 := by
  unfold Go.Proofs.Ytingoafbkbccnaa.putL
  split
  · exact h
  · rename_i h1
    split
    · exact h
    · rename_i h2; exact h.put h1 h2
theorem ArOk.sz {room : Int} {q : List Cell} (h : ArOk room q) : q.length ≤ 65536 := by have := h.hi; have := h.le; omega
theorem getP_ok {q : List Cell} {n : Int} (h : (getP q n).2 = true) : 1 ≤ n ∧ n ≤ q.length := by
  unfold getP at h
  split at h
  · assumption
  · cases h
theorem idx_ok {room : Int} {q : List Cell} {n : Int} (hI : ArOk room q) (h : (getP q n).2 = true) : 0 ≤ IntKind.wrap .i64 (n - 1) ∧ IntKind.wrap .i64 (n - 1) < q.length := by
  have := getP_ok h; have := hI.sz
  rw [wrap_i64 (by omega)]; omega
theorem cutIs_and (q : List Cell) (n : Int) : cutIs q n = (decide (0 ≤ n) && decide (n ≤ q.length)) := by unfold cutIs; exact Bool.decide_and _ _
theorem and_no {a b : Prop} [Decidable a] [Decidable b] (h : ¬ (a ∧ b)) : (decide a && decide b) = false := by rw [← Bool.decide_and]; exact decide_eq_false h
theorem and_yes {a b : Prop} [Decidable a] [Decidable b] (h : a ∧ b) : (decide a && decide b) = true := by rw [← Bool.decide_and]; exact decide_eq_true h
theorem wrap_succ {i : Nat} (h : i ≤ 1000000) : IntKind.wrap .i64 ((i : Int) + 1) = ((i + 1 : Nat) : Int) := by rw [wrap_i64 (by omega)]; omega

theorem plays_c (room : Int) (l : List Deed) : FnP Try.prog 3 [.int .i64 room, .sl rDeed l] (.bool true) := by
  refine FnP.mk Try.func3 rfl Try.ntmps3 rfl ?_
  intro B a w F hB hfr hS
  refine wp_seq ?_
  refine region_seq hS (by kernel_rfl)
      (Chain.cons (Cert.free rfl (o_assign .cb (by rfl))) trivial trivial
      Chain.nil)
      (by kernel_rfl) (by rw [hB]; kernel_rfl) ?_
  clear hS; intro a w F hS
  replace hS := hS.norm [(0, _), (1, _), (4, _)] [(0, _)] ⟨rfl, rfl, rfl, trivial⟩ ⟨rfl, trivial⟩
  obtain ⟨F, hS⟩ := hS
  try dsimp only [RS.sub, SF.sub, CF.sub, csub, Anc.sub, stCells, List.map, List.length_cons, List.length_nil, Nat.reduceAdd, List.drop_succ_cons, List.drop_zero, List.drop_nil, List.take_succ_cons, List.take_zero, List.take_nil, List.cons_append, List.nil_append, zCF, ldSF] at hS
  refine then_n ?_
  refine wp_seq ?_
  replace hS := hS.fresh 101 rfl
  refine region_seq hS (by kernel_rfl)
      (Chain.cons (Cert.free rfl (o_move .t (by rfl))) ⟨rfl, trivial⟩ trivial
      (Chain.cons (Cert.free rfl (o_callN 101 (new_c room) Try.func5 rfl (by kernel_rfl) (Args.one .t) PV.ptr_one)) ⟨rfl, trivial⟩ ⟨rfl, trivial⟩
      (Chain.cons (Cert.free rfl (o_assign .t (by rfl))) ⟨rfl, trivial⟩ trivial
      Chain.nil)))
      (by kernel_rfl) (by rw [hB]; kernel_rfl) ?_
  clear hS; intro a w F hS
  replace hS := hS.sub
  replace hS := hS.norm [(0, _), (1, _), (4, _), (5, _)] [(0, _), (101, _)] ⟨rfl, rfl, rfl, rfl, trivial⟩ ⟨rfl, rfl, trivial⟩
  obtain ⟨F, hS⟩ := hS
  try dsimp only [RS.sub, SF.sub, CF.sub, csub, Anc.sub, stCells, List.map, List.length_cons, List.length_nil, Nat.reduceAdd, List.drop_succ_cons, List.drop_zero, List.drop_nil, List.take_succ_cons, List.take_zero, List.take_nil, List.cons_append, List.nil_append, zCF, ldSF] at hS
  generalize Act.tau a 21 = v21 at hS
  obtain ⟨_, _, _, ho⟩ := hS.obGet 101 rfl
  obtain ⟨b, rfl⟩ := arenaH_ptr ho
  clear ho
  replace hS := hS.turn 101 rfl (r' := RS.hp (arenaH (.pointer (some ⟨b, 0, none⟩)) (refRoom room) [])) (fun _ _ _ _ h => h)
  replace hS := hS.norm [(0, _), (1, _), (4, _), (5, _)] [(0, _), (101, _)] ⟨rfl, rfl, rfl, rfl, trivial⟩ ⟨rfl, rfl, trivial⟩
  obtain ⟨F, hS⟩ := hS
  refine then_n ?_
  refine wp_seq ?_
  refine wp_seq ?_
  refine region_seq hS (by kernel_rfl)
      (Chain.cons (Cert.free rfl (o_move .t (by rfl))) ⟨rfl, trivial⟩ trivial
      (Chain.cons (Cert.free rfl (o_nil_eql _ Try.underlying23 rfl .t)) ⟨rfl, trivial⟩ trivial
      (Chain.cons (Cert.free rfl (o_move .t (by rfl))) ⟨rfl, trivial⟩ trivial
      (Chain.cons (Cert.cond rfl rfl (fun h => o_move .t (by rfl))) ⟨rfl, rfl, trivial⟩ trivial
      (Chain.cons (Cert.cond rfl rfl (fun h => o_len_sl Try.underlying22 (.w h))) ⟨rfl, rfl, trivial⟩ trivial
      (Chain.cons (Cert.cond rfl rfl (fun h => o_gtr (.w h) (.ci (by kernel_rfl)))) ⟨rfl, rfl, trivial⟩ trivial
      (Chain.cons (Cert.free rfl (o_or2 .t .t)) ⟨rfl, rfl, trivial⟩ trivial
      Chain.nil)))))))
      (by kernel_rfl) (by rw [hB]; kernel_rfl) ?_
  clear hS; intro a w F hS
  replace hS := hS.norm [(0, _), (1, _), (4, _), (5, _), (28, _)] [(0, _), (101, _)] ⟨rfl, rfl, rfl, rfl, rfl, trivial⟩ ⟨rfl, rfl, trivial⟩
  obtain ⟨F, hS⟩ := hS
  try dsimp only [RS.sub, SF.sub, CF.sub, csub, Anc.sub, stCells, List.map, List.length_cons, List.length_nil, Nat.reduceAdd, List.drop_succ_cons, List.drop_zero, List.drop_nil, List.take_succ_cons, List.take_zero, List.take_nil, List.cons_append, List.nil_append, zCF, ldSF] at hS
  refine then_n ?_
  refine cond_b hS rfl (fun hc0 => ?_) (fun hc0 => ?_)
  · skip
    refine wp_seq ?_
    refine region_seq hS (by kernel_rfl)
        (Chain.cons (Cert.free rfl (o_move .t (by rfl))) ⟨rfl, trivial⟩ trivial
        (Chain.cons (Cert.free rfl (o_nil_neq _ Try.underlying23 rfl .t)) ⟨rfl, trivial⟩ trivial
        (Chain.cons (Cert.free rfl (o_move .t (by rfl))) ⟨rfl, trivial⟩ trivial
        (Chain.cons (Cert.cond rfl rfl (fun h => o_callP (lives_c) Try.func6 rfl (by kernel_rfl) Args.nil)) ⟨rfl, trivial⟩ trivial
        (Chain.cons (Cert.free rfl (o_and2 .t .t)) ⟨rfl, rfl, trivial⟩ trivial
        (Chain.cons (Cert.free rfl (o_assign .t (by rfl))) ⟨rfl, trivial⟩ trivial
        Chain.nil))))))
        (by kernel_rfl) (by rw [hB]; kernel_rfl) ?_
    clear hS; intro a w F hS
    replace hS := hS.norm [(0, _), (1, _), (4, _), (5, _)] [(0, _), (101, _)] ⟨rfl, rfl, rfl, rfl, trivial⟩ ⟨rfl, rfl, trivial⟩
    obtain ⟨F, hS⟩ := hS
    try dsimp only [RS.sub, SF.sub, CF.sub, csub, Anc.sub, stCells, List.map, List.length_cons, List.length_nil, Nat.reduceAdd, List.drop_succ_cons, List.drop_zero, List.drop_nil, List.take_succ_cons, List.take_zero, List.take_nil, List.cons_append, List.nil_append, zCF, ldSF] at hS
    refine then_n ?_
    refine wp_ret ?_
    refine then_r ?_
    refine ret_P hfr hS rfl (.tmp rfl .nil) (.one (.bool (by first | rfl | simp)))
  · skip
    have hlen : l.length ≤ 100 := by simp at hc0; omega
    refine wp_skip ?_
    refine then_n ?_
    refine wp_seq ?_
    refine region_seq hS (by kernel_rfl)
        (Chain.cons (Cert.free rfl (o_assign (.c rfl) (by rfl))) trivial trivial
        Chain.nil)
        (by kernel_rfl) (by rw [hB]; kernel_rfl) ?_
    clear hS; intro a w F hS
    replace hS := hS.norm [(0, _), (1, _), (4, _), (5, _), (6, _)] [(0, _), (101, _)] ⟨rfl, rfl, rfl, rfl, rfl, trivial⟩ ⟨rfl, rfl, trivial⟩
    obtain ⟨F, hS⟩ := hS
    try dsimp only [RS.sub, SF.sub, CF.sub, csub, Anc.sub, stCells, List.map, List.length_cons, List.length_nil, Nat.reduceAdd, List.drop_succ_cons, List.drop_zero, List.drop_nil, List.take_succ_cons, List.take_zero, List.take_nil, List.cons_append, List.nil_append, zCF, ldSF] at hS
    refine then_n ?_
    refine wp_seq ?_
    refine wp_seq ?_
    refine region_seq hS (by kernel_rfl)
        (Chain.cons (Cert.free rfl (o_move .t (by rfl))) ⟨rfl, trivial⟩ trivial
        (Chain.cons (Cert.free rfl (o_len_sl Try.underlying22 .t)) ⟨rfl, trivial⟩ trivial
        (Chain.cons (Cert.free rfl (o_move (.ci (by kernel_rfl)) (by rfl))) trivial trivial
        Chain.nil)))
        (by kernel_rfl) (by rw [hB]; kernel_rfl) ?_
    clear hS; intro a w F hS
    replace hS := hS.norm [(0, _), (4, _), (5, _), (6, _), (34, _), (35, _), (36, _)] [(0, _), (101, _)] ⟨rfl, rfl, rfl, rfl, rfl, rfl, rfl, trivial⟩ ⟨rfl, rfl, trivial⟩
    obtain ⟨F, hS⟩ := hS
    try dsimp only [RS.sub, SF.sub, CF.sub, csub, Anc.sub, stCells, List.map, List.length_cons, List.length_nil, Nat.reduceAdd, List.drop_succ_cons, List.drop_zero, List.drop_nil, List.take_succ_cons, List.take_zero, List.take_nil, List.cons_append, List.nil_append, zCF, ldSF] at hS
    refine then_n ?_
    refine wp_block ?_
    replace hS := hS.ent (i := 6) (s' := .pv (.sl rCell [])) rfl (.nilSl)
    replace hS := hS.norm [(0, _), (5, _), (6, _), (34, _), (35, _), (36, _)] [(0, _), (101, _)] ⟨rfl, rfl, rfl, rfl, rfl, rfl, trivial⟩ ⟨rfl, rfl, trivial⟩
    obtain ⟨F, hS⟩ := hS
    refine loop_inv (σ := (Nat × List Cell)) (fun s => (⟨[(0, .pv (.int .i64 room)), (5, .pv (.is (.pointer (some ⟨b, 0, none⟩)))), (6, .pv (.sl rCell s.2)), (34, .pv (.sl rDeed l)), (35, .pv (.int .i64 l.length)), (36, .pv (.int .i64 s.1))], [(0, frame B), (101, RS.hp (arenaH (.pointer (some ⟨b, 0, none⟩)) (refRoom room) s.2))]⟩ : En)) (fun s => s.1 ≤ l.length ∧ ArOk (refRoom room) s.2) (fun s => l.length - s.1) (0, []) hS ⟨Nat.zero_le _, arOk_new room⟩ ?_
    clear hS; intro s a w F hC hS
    obtain ⟨i, q⟩ := s
    try dsimp only at hC
    try dsimp only at hS
    have hI := hC.2
    have hz := hI.sz
    have hi := hC.1
    refine wp_seq ?_
    refine region_seq hS (by kernel_rfl)
        (Chain.cons (Cert.free rfl (o_lss .t .t)) ⟨rfl, rfl, trivial⟩ trivial
        Chain.nil)
        (by kernel_rfl) (by rw [hB]; kernel_rfl) ?_
    clear hS; intro a w F hS
    replace hS := hS.norm [(0, _), (5, _), (6, _), (34, _), (35, _), (36, _), (37, _)] [(0, _), (101, _)] ⟨rfl, rfl, rfl, rfl, rfl, rfl, rfl, trivial⟩ ⟨rfl, rfl, trivial⟩
    obtain ⟨F, hS⟩ := hS
    try dsimp only [RS.sub, SF.sub, CF.sub, csub, Anc.sub, stCells, List.map, List.length_cons, List.length_nil, Nat.reduceAdd, List.drop_succ_cons, List.drop_zero, List.drop_nil, List.take_succ_cons, List.take_zero, List.take_nil, List.cons_append, List.nil_append, zCF, ldSF] at hS
    refine then_n ?_
    refine wp_seq ?_
    refine cond_b hS rfl (fun hc1 => ?_) (fun hc1 => ?_)
    · skip
      have hil : i < l.length := by simp at hc1; omega
      refine wp_skip ?_
      refine then_n ?_
      refine wp_seq ?_
      refine wp_block ?_
      refine wp_seq ?_
      refine region_seq hS (by kernel_rfl)
          (Chain.cons (Cert.free rfl (o_indexAddr_sl (sz := 8) (.mk Try.underlying22 (by kernel_rfl)) (by intro x; rfl) .t .t (by omega) (by omega))) ⟨rfl, rfl, trivial⟩ trivial
          (Chain.cons (Cert.free rfl (o_load_ref (ag := true) (sz := 8) .t (by kernel_rfl) (by kernel_rfl) (by kernel_rfl))) ⟨rfl, trivial⟩ trivial
          (Chain.cons (Cert.free rfl (o_alloc (zs := [.int .i64 0, .int .i64 0, .int .i64 0, .int .i64 0, .int .i64 0, .int .i64 0, .int .i64 0, .int .i64 0]) 102 (by kernel_rfl))) trivial trivial
          (Chain.cons (Cert.free rfl (o_storeA (sz := 8) 102 .same .t (by kernel_rfl) (by kernel_rfl) (by kernel_rfl))) ⟨rfl, rfl, trivial⟩ ⟨rfl, trivial⟩
          Chain.nil))))
          (by kernel_rfl) (by rw [hB]; kernel_rfl) ?_
      clear hS; intro a w F hS
      replace hS := hS.sub
      replace hS := hS.norm [(0, _), (5, _), (6, _), (8, _), (34, _), (35, _), (36, _), (37, _), (38, _), (39, _)] [(0, _), (101, _), (102, _)] ⟨rfl, rfl, rfl, rfl, rfl, rfl, rfl, rfl, rfl, rfl, trivial⟩ ⟨rfl, rfl, rfl, trivial⟩
      obtain ⟨F, hS⟩ := hS
      try dsimp only [RS.sub, SF.sub, CF.sub, csub, Anc.sub, stCells, List.map, List.length_cons, List.length_nil, Nat.reduceAdd, List.drop_succ_cons, List.drop_zero, List.drop_nil, List.take_succ_cons, List.take_zero, List.take_nil, List.cons_append, List.nil_append, zCF, ldSF] at hS
      generalize Act.tau a 8 = v8 at hS
      obtain ⟨d, hd⟩ : ∃ d, d = nth l (i : Int).toNat := ⟨_, rfl⟩
      rw [← hd] at hS
      refine then_n ?_
      refine wp_seq ?_
      refine wp_seq ?_
      refine region_seq hS (by kernel_rfl)
          (Chain.cons (Cert.free rfl (o_fieldAddr (off := 0) 102 .is (by kernel_rfl) (by rfl))) ⟨rfl, trivial⟩ ⟨rfl, trivial⟩
          (Chain.cons (Cert.free rfl (o_load (ag := false) (sz := 1) 102 .adr (by kernel_rfl) (by kernel_rfl) (by kernel_rfl) (by rfl))) ⟨rfl, trivial⟩ ⟨rfl, trivial⟩
          Chain.nil))
          (by kernel_rfl) (by rw [hB]; kernel_rfl) ?_
      clear hS; intro a w F hS
      replace hS := hS.norm [(0, _), (5, _), (6, _), (8, _), (34, _), (35, _), (36, _), (37, _), (38, _), (39, _), (40, _), (41, _)] [(0, _), (101, _), (102, _)] ⟨rfl, rfl, rfl, rfl, rfl, rfl, rfl, rfl, rfl, rfl, rfl, rfl, trivial⟩ ⟨rfl, rfl, rfl, trivial⟩
      obtain ⟨F, hS⟩ := hS
      try dsimp only [RS.sub, SF.sub, CF.sub, csub, Anc.sub, stCells, List.map, List.length_cons, List.length_nil, Nat.reduceAdd, List.drop_succ_cons, List.drop_zero, List.drop_nil, List.take_succ_cons, List.take_zero, List.take_nil, List.cons_append, List.nil_append, zCF, ldSF] at hS
      refine then_n ?_
      refine wp_block ?_
      refine wp_seq ?_
      refine region_seq hS (by kernel_rfl)
          (Chain.cons (Cert.free rfl (o_eql .t (.ci (by kernel_rfl)))) ⟨rfl, trivial⟩ trivial
          (Chain.cons (Cert.free rfl (o_assign .t (by rfl))) ⟨rfl, trivial⟩ trivial
          Chain.nil))
          (by kernel_rfl) (by rw [hB]; kernel_rfl) ?_
      clear hS; intro a w F hS
      replace hS := hS.norm [(0, _), (5, _), (6, _), (8, _), (34, _), (35, _), (36, _), (37, _), (38, _), (39, _), (40, _), (41, _), (42, _), (43, _)] [(0, _), (101, _), (102, _)] ⟨rfl, rfl, rfl, rfl, rfl, rfl, rfl, rfl, rfl, rfl, rfl, rfl, rfl, rfl, trivial⟩ ⟨rfl, rfl, rfl, trivial⟩
      obtain ⟨F, hS⟩ := hS
      try dsimp only [RS.sub, SF.sub, CF.sub, csub, Anc.sub, stCells, List.map, List.length_cons, List.length_nil, Nat.reduceAdd, List.drop_succ_cons, List.drop_zero, List.drop_nil, List.take_succ_cons, List.take_zero, List.take_nil, List.cons_append, List.nil_append, zCF, ldSF] at hS
      refine then_n ?_
      refine cond_b hS rfl (fun hc2 => ?_) (fun hc2 => ?_)
      · skip
        refine wp_seq ?_
        refine region_seq hS (by kernel_rfl)
            (Chain.cons (Cert.free rfl (o_move .t (by rfl))) ⟨rfl, trivial⟩ trivial
            (Chain.cons (Cert.free rfl (o_move .t (by rfl))) ⟨rfl, trivial⟩ trivial
            (Chain.cons (Cert.free rfl (o_fieldAddr (off := 1) 102 .is (by kernel_rfl) (by rfl))) ⟨rfl, trivial⟩ ⟨rfl, trivial⟩
            (Chain.cons (Cert.free rfl (o_load (ag := true) (sz := 6) 102 .adr (by kernel_rfl) (by kernel_rfl) (by kernel_rfl) (by rfl))) ⟨rfl, trivial⟩ ⟨rfl, trivial⟩
            (Chain.cons (Cert.free rfl (o_callP (refPut_c q hz room d.c) Try.func7 rfl (by kernel_rfl) (Args.three .t .t (.pagg .t)))) ⟨rfl, rfl, rfl, trivial⟩ trivial
            (Chain.cons (Cert.free rfl (o_move .t (by rfl))) ⟨rfl, trivial⟩ trivial
            (Chain.cons (Cert.free rfl (o_extract .t rfl)) ⟨rfl, trivial⟩ trivial
            (Chain.cons (Cert.free rfl (o_extract .t rfl)) ⟨rfl, trivial⟩ trivial
            (Chain.cons (Cert.free rfl (o_extract .t rfl)) ⟨rfl, trivial⟩ trivial
            (Chain.cons (Cert.free rfl (o_assign .t (by rfl))) ⟨rfl, trivial⟩ trivial
            (Chain.cons (Cert.free rfl (o_assign .t (by rfl))) ⟨rfl, trivial⟩ trivial
            (Chain.cons (Cert.free rfl (o_assign .t (by rfl))) ⟨rfl, trivial⟩ trivial
            Chain.nil))))))))))))
            (by kernel_rfl) (by rw [hB]; kernel_rfl) ?_
        clear hS; intro a w F hS
        replace hS := hS.norm [(0, _), (5, _), (6, _), (8, _), (9, _), (10, _), (11, _), (34, _), (35, _), (36, _), (37, _), (38, _), (39, _), (40, _), (41, _), (42, _), (43, _), (44, _), (45, _), (46, _), (47, _), (48, _), (49, _), (50, _), (51, _), (52, _)] [(0, _), (101, _), (102, _)] ⟨rfl, rfl, rfl, rfl, rfl, rfl, rfl, rfl, rfl, rfl, rfl, rfl, rfl, rfl, rfl, rfl, rfl, rfl, rfl, rfl, rfl, rfl, rfl, rfl, rfl, rfl, trivial⟩ ⟨rfl, rfl, rfl, trivial⟩
        obtain ⟨F, hS⟩ := hS
        try dsimp only [RS.sub, SF.sub, CF.sub, csub, Anc.sub, stCells, List.map, List.length_cons, List.length_nil, Nat.reduceAdd, List.drop_succ_cons, List.drop_zero, List.drop_nil, List.take_succ_cons, List.take_zero, List.take_nil, List.cons_append, List.nil_append, zCF, ldSF] at hS
        refine then_n ?_
        refine wp_seq ?_
        refine region_seq hS (by kernel_rfl)
            (Chain.cons (Cert.free rfl (o_move .t (by rfl))) ⟨rfl, trivial⟩ trivial
            (Chain.cons (Cert.free rfl (o_assign .t (by rfl))) ⟨rfl, trivial⟩ trivial
            Chain.nil))
            (by kernel_rfl) (by rw [hB]; kernel_rfl) ?_
        clear hS; intro a w F hS
        replace hS := hS.norm [(0, _), (5, _), (6, _), (8, _), (9, _), (10, _), (11, _), (34, _), (35, _), (36, _), (37, _), (38, _), (39, _), (40, _), (41, _), (42, _), (43, _), (44, _), (45, _), (46, _), (47, _), (48, _), (49, _), (50, _), (51, _), (52, _), (53, _)] [(0, _), (101, _), (102, _)] ⟨rfl, rfl, rfl, rfl, rfl, rfl, rfl, rfl, rfl, rfl, rfl, rfl, rfl, rfl, rfl, rfl, rfl, rfl, rfl, rfl, rfl, rfl, rfl, rfl, rfl, rfl, rfl, trivial⟩ ⟨rfl, rfl, rfl, trivial⟩
        obtain ⟨F, hS⟩ := hS
        try dsimp only [RS.sub, SF.sub, CF.sub, csub, Anc.sub, stCells, List.map, List.length_cons, List.length_nil, Nat.reduceAdd, List.drop_succ_cons, List.drop_zero, List.drop_nil, List.take_succ_cons, List.take_zero, List.take_nil, List.cons_append, List.nil_append, zCF, ldSF] at hS
        refine then_n ?_
        refine wp_seq ?_
        refine region_seq hS (by kernel_rfl)
            (Chain.cons (Cert.free rfl (o_move .t (by rfl))) ⟨rfl, trivial⟩ trivial
            (Chain.cons (Cert.free rfl (o_fieldAddr (off := 1) 102 .is (by kernel_rfl) (by rfl))) ⟨rfl, trivial⟩ ⟨rfl, trivial⟩
            (Chain.cons (Cert.free rfl (o_load (ag := true) (sz := 6) 102 .adr (by kernel_rfl) (by kernel_rfl) (by kernel_rfl) (by rfl))) ⟨rfl, trivial⟩ ⟨rfl, trivial⟩
            (Chain.cons (Cert.free rfl (o_callG1 101 (put_c b (refRoom room) q d.c) Try.func8 rfl (by kernel_rfl) (Args.two .t (.pagg .t)))) ⟨rfl, rfl, trivial⟩ ⟨rfl, trivial⟩
            (Chain.cons (Cert.free rfl (o_move .t (by rfl))) ⟨rfl, trivial⟩ trivial
            (Chain.cons (Cert.free rfl (o_extract .t rfl)) ⟨rfl, trivial⟩ trivial
            (Chain.cons (Cert.free rfl (o_extract .t rfl)) ⟨rfl, trivial⟩ trivial
            (Chain.cons (Cert.free rfl (o_assign .t (by rfl))) ⟨rfl, trivial⟩ trivial
            (Chain.cons (Cert.free rfl (o_assign .t (by rfl))) ⟨rfl, trivial⟩ trivial
            Chain.nil)))))))))
            (by kernel_rfl) (by rw [hB]; kernel_rfl) ?_
        clear hS; intro a w F hS
        replace hS := hS.norm [(0, _), (5, _), (6, _), (8, _), (9, _), (10, _), (11, _), (12, _), (13, _), (34, _), (35, _), (36, _), (37, _), (38, _), (39, _), (40, _), (41, _), (42, _), (43, _), (44, _), (45, _), (46, _), (47, _), (48, _), (49, _), (50, _), (51, _), (52, _), (53, _), (54, _), (55, _), (56, _), (57, _), (58, _), (59, _), (60, _)] [(0, _), (101, _), (102, _)] ⟨rfl, rfl, rfl, rfl, rfl, rfl, rfl, rfl, rfl, rfl, rfl, rfl, rfl, rfl, rfl, rfl, rfl, rfl, rfl, rfl, rfl, rfl, rfl, rfl, rfl, rfl, rfl, rfl, rfl, rfl, rfl, rfl, rfl, rfl, rfl, rfl, trivial⟩ ⟨rfl, rfl, rfl, trivial⟩
        obtain ⟨F, hS⟩ := hS
        try dsimp only [RS.sub, SF.sub, CF.sub, csub, Anc.sub, stCells, List.map, List.length_cons, List.length_nil, Nat.reduceAdd, List.drop_succ_cons, List.drop_zero, List.drop_nil, List.take_succ_cons, List.take_zero, List.take_nil, List.cons_append, List.nil_append, zCF, ldSF] at hS
        refine then_n ?_
        refine wp_seq ?_
        refine region_seq hS (by kernel_rfl)
            (Chain.cons (Cert.free rfl (o_move .t (by rfl))) ⟨rfl, trivial⟩ trivial
            (Chain.cons (Cert.free rfl (o_move .t (by rfl))) ⟨rfl, trivial⟩ trivial
            (Chain.cons (Cert.free rfl (o_neq .t .t)) ⟨rfl, rfl, trivial⟩ trivial
            (Chain.cons (Cert.free rfl (o_move .t (by rfl))) ⟨rfl, trivial⟩ trivial
            (Chain.cons (Cert.cond rfl rfl (fun h => o_move .t (by rfl))) ⟨rfl, rfl, trivial⟩ trivial
            (Chain.cons (Cert.cond rfl rfl (fun h => o_move .t (by rfl))) ⟨rfl, rfl, trivial⟩ trivial
            (Chain.cons (Cert.cond rfl rfl (fun h => o_neq (.w h) (.w h))) ⟨rfl, rfl, rfl, trivial⟩ trivial
            (Chain.cons (Cert.free rfl (o_or2 .t .t)) ⟨rfl, rfl, trivial⟩ trivial
            Chain.nil))))))))
            (by kernel_rfl) (by rw [hB]; kernel_rfl) ?_
        clear hS; intro a w F hS
        replace hS := hS.norm [(0, _), (5, _), (6, _), (8, _), (9, _), (10, _), (11, _), (12, _), (13, _), (34, _), (35, _), (36, _), (37, _), (38, _), (39, _), (40, _), (41, _), (42, _), (43, _), (44, _), (45, _), (46, _), (47, _), (48, _), (49, _), (50, _), (51, _), (52, _), (53, _), (54, _), (55, _), (56, _), (57, _), (58, _), (59, _), (60, _), (61, _), (62, _), (63, _), (64, _), (65, _), (66, _), (67, _), (68, _)] [(0, _), (101, _), (102, _)] ⟨rfl, rfl, rfl, rfl, rfl, rfl, rfl, rfl, rfl, rfl, rfl, rfl, rfl, rfl, rfl, rfl, rfl, rfl, rfl, rfl, rfl, rfl, rfl, rfl, rfl, rfl, rfl, rfl, rfl, rfl, rfl, rfl, rfl, rfl, rfl, rfl, rfl, rfl, rfl, rfl, rfl, rfl, rfl, rfl, trivial⟩ ⟨rfl, rfl, rfl, trivial⟩
        obtain ⟨F, hS⟩ := hS
        try dsimp only [RS.sub, SF.sub, CF.sub, csub, Anc.sub, stCells, List.map, List.length_cons, List.length_nil, Nat.reduceAdd, List.drop_succ_cons, List.drop_zero, List.drop_nil, List.take_succ_cons, List.take_zero, List.take_nil, List.cons_append, List.nil_append, zCF, ldSF] at hS
        refine then_n ?_
        refine cond_b hS rfl (fun hc3 => ?_) (fun hc3 => ?_)
        · skip
          simp at hc3
        · skip
          obtain ⟨q2, hq2⟩ : ∃ q2, q2 = (putL (refRoom room) q d.c).1 := ⟨_, rfl⟩
          rw [← hq2] at hS
          have hI2 : ArOk (refRoom room) q2 := by rw [hq2]; exact hI.putL _
          have hz2 := hI2.sz
          refine wp_skip ?_
          refine block_n ?_
          refine then_n ?_
          refine wp_seq ?_
          refine region_seq hS (by kernel_rfl)
              (Chain.cons (Cert.free rfl (o_move .t (by rfl))) ⟨rfl, trivial⟩ trivial
              (Chain.cons (Cert.free rfl (o_fieldAddr (off := 7) 102 .is (by kernel_rfl) (by rfl))) ⟨rfl, trivial⟩ ⟨rfl, trivial⟩
              (Chain.cons (Cert.free rfl (o_load (ag := false) (sz := 1) 102 .adr (by kernel_rfl) (by kernel_rfl) (by kernel_rfl) (by rfl))) ⟨rfl, trivial⟩ ⟨rfl, trivial⟩
              (Chain.cons (Cert.free rfl (o_callG1 101 (get_c b (refRoom room) q2 d.n) Try.func10 rfl (by kernel_rfl) (Args.two .t .t))) ⟨rfl, rfl, trivial⟩ ⟨rfl, trivial⟩
              (Chain.cons (Cert.free rfl (o_move .t (by rfl))) ⟨rfl, trivial⟩ trivial
              (Chain.cons (Cert.free rfl (o_extract .t rfl)) ⟨rfl, trivial⟩ trivial
              (Chain.cons (Cert.free rfl (o_extract .t rfl)) ⟨rfl, trivial⟩ trivial
              (Chain.cons (Cert.free rfl (o_alloc (zs := [.int .i64 0, .int .i64 0, .int .i64 0, .int .i64 0, .int .i64 0, .int .i64 0]) 103 (by kernel_rfl))) trivial trivial
              (Chain.cons (Cert.free rfl (o_storeA (sz := 6) 103 .same (.conv .t .agg) (by kernel_rfl) (by kernel_rfl) (by kernel_rfl))) ⟨rfl, rfl, trivial⟩ ⟨rfl, trivial⟩
              (Chain.cons (Cert.free rfl (o_assign .t (by rfl))) ⟨rfl, trivial⟩ trivial
              Chain.nil))))))))))
              (by kernel_rfl) (by rw [hB]; kernel_rfl) ?_
          clear hS; intro a w F hS
          replace hS := hS.sub
          replace hS := hS.norm [(0, _), (5, _), (6, _), (8, _), (9, _), (10, _), (11, _), (12, _), (13, _), (15, _), (16, _), (34, _), (35, _), (36, _), (37, _), (38, _), (39, _), (40, _), (41, _), (42, _), (43, _), (44, _), (45, _), (46, _), (47, _), (48, _), (49, _), (50, _), (51, _), (52, _), (53, _), (54, _), (55, _), (56, _), (57, _), (58, _), (59, _), (60, _), (61, _), (62, _), (63, _), (64, _), (65, _), (66, _), (67, _), (68, _), (92, _), (93, _), (94, _), (95, _), (96, _), (97, _), (98, _)] [(0, _), (101, _), (102, _), (103, _)] ⟨rfl, rfl, rfl, rfl, rfl, rfl, rfl, rfl, rfl, rfl, rfl, rfl, rfl, rfl, rfl, rfl, rfl, rfl, rfl, rfl, rfl, rfl, rfl, rfl, rfl, rfl, rfl, rfl, rfl, rfl, rfl, rfl, rfl, rfl, rfl, rfl, rfl, rfl, rfl, rfl, rfl, rfl, rfl, rfl, rfl, rfl, rfl, rfl, rfl, rfl, rfl, rfl, rfl, trivial⟩ ⟨rfl, rfl, rfl, rfl, trivial⟩
          obtain ⟨F, hS⟩ := hS
          try dsimp only [RS.sub, SF.sub, CF.sub, csub, Anc.sub, stCells, List.map, List.length_cons, List.length_nil, Nat.reduceAdd, List.drop_succ_cons, List.drop_zero, List.drop_nil, List.take_succ_cons, List.take_zero, List.take_nil, List.cons_append, List.nil_append, zCF, ldSF] at hS
          generalize Act.tau a 15 = v15 at hS
          refine then_n ?_
          refine wp_seq ?_
          refine region_any (by kernel_rfl) hS (by kernel_rfl)
              (Chain.cons (Cert.free rfl (o_move .t (by rfl))) ⟨rfl, trivial⟩ trivial
              (Chain.cons (Cert.free rfl (o_fieldAddr (off := 7) 102 .is (by kernel_rfl) (by rfl))) ⟨rfl, trivial⟩ ⟨rfl, trivial⟩
              (Chain.cons (Cert.free rfl (o_load (ag := false) (sz := 1) 102 .adr (by kernel_rfl) (by kernel_rfl) (by kernel_rfl) (by rfl))) ⟨rfl, trivial⟩ ⟨rfl, trivial⟩
              (Chain.cons (Cert.free rfl (o_geq .t (.ci (by kernel_rfl)))) ⟨rfl, trivial⟩ trivial
              (Chain.cons (Cert.free rfl (o_move .t (by rfl))) ⟨rfl, trivial⟩ trivial
              (Chain.cons (Cert.cond rfl rfl (fun h => o_fieldAddr (off := 7) 102 .is (by kernel_rfl) (by rfl))) ⟨rfl, rfl, trivial⟩ ⟨rfl, trivial⟩
              (Chain.cons (Cert.cond rfl rfl (fun h => o_load (ag := false) (sz := 1) 102 (.w h .adr) (by kernel_rfl) (by kernel_rfl) (by kernel_rfl) (by rfl))) ⟨rfl, rfl, trivial⟩ ⟨rfl, trivial⟩
              (Chain.cons (Cert.cond rfl rfl (fun h => o_move .t (by rfl))) ⟨rfl, rfl, trivial⟩ trivial
              (Chain.cons (Cert.cond rfl rfl (fun h => o_len_sl Try.underlying26 (.w h))) ⟨rfl, rfl, trivial⟩ trivial
              (Chain.cons (Cert.cond rfl rfl (fun h => o_leq (.w h) (.w h))) ⟨rfl, rfl, rfl, trivial⟩ trivial
              (Chain.cons (Cert.free rfl (o_and2 .t .t)) ⟨rfl, rfl, trivial⟩ trivial
              (Chain.cons (Cert.free rfl (o_neqB Try.underlying4 .t .t)) ⟨rfl, rfl, trivial⟩ trivial
              (Chain.cons (Cert.free rfl (o_move .t (by rfl))) ⟨rfl, trivial⟩ trivial
              (Chain.cons (Cert.cond rfl rfl (fun h => o_move .t (by rfl))) ⟨rfl, rfl, trivial⟩ trivial
              (Chain.cons (Cert.cond rfl rfl (fun h => o_move (.w h) (by rfl))) ⟨rfl, rfl, trivial⟩ trivial
              (Chain.cons (Cert.cond2 rfl rfl (fun h => o_load (ag := true) (sz := 6) 103 .is (by kernel_rfl) (by kernel_rfl) (by kernel_rfl) (by rfl))) ⟨rfl, rfl, trivial⟩ ⟨rfl, trivial⟩
              (Chain.cons (Cert.cond2 rfl rfl (fun h => o_move .t (by rfl))) ⟨rfl, rfl, trivial⟩ trivial
              (Chain.cons (Cert.cond2 rfl rfl (fun h => o_fieldAddr (off := 7) 102 .is (by kernel_rfl) (by rfl))) ⟨rfl, rfl, trivial⟩ ⟨rfl, trivial⟩
              (Chain.cons (Cert.cond2 rfl rfl (fun h => o_load (ag := false) (sz := 1) 102 (.w h .adr) (by kernel_rfl) (by kernel_rfl) (by kernel_rfl) (by rfl))) ⟨rfl, rfl, trivial⟩ ⟨rfl, trivial⟩
              (Chain.cons (Cert.cond2 rfl rfl (fun h => o_sub (.w h) (.ci (by kernel_rfl)))) ⟨rfl, rfl, trivial⟩ trivial
              (Chain.cons (Cert.cond2 rfl rfl (fun h => o_indexAddr_sl (sz := 6) (.mk Try.underlying26 (by kernel_rfl)) (by intro x; rfl) (.w h) (.w h) (idx_ok hI2 h.2).1 (idx_ok hI2 h.2).2)) ⟨rfl, rfl, rfl, trivial⟩ trivial
              (Chain.cons (Cert.cond2 rfl rfl (fun h => o_load_ref (ag := true) (sz := 6) (.w h) (by kernel_rfl) (by kernel_rfl) (by kernel_rfl))) ⟨rfl, rfl, trivial⟩ trivial
              (Chain.cons (Cert.cond2 rfl rfl (fun h => o_neqS (ks := [true, true, true, true, true, true]) (by kernel_rfl) (.w h) (.w h) (.int (.int (.int (.int (.int (.int .nil)))))))) ⟨rfl, rfl, rfl, trivial⟩ trivial
              (Chain.cons (Cert.cond rfl rfl (fun h => o_and2 (.w h) (.wc h))) ⟨rfl, rfl, rfl, trivial⟩ trivial
              (Chain.cons (Cert.free rfl (o_or2 .t .t)) ⟨rfl, rfl, trivial⟩ trivial
              (Chain.cons (Cert.free rfl (o_move .t (by rfl))) ⟨rfl, trivial⟩ trivial
              (Chain.cons (Cert.cond rfl rfl (fun h => o_move .t (by rfl))) ⟨rfl, rfl, trivial⟩ trivial
              (Chain.cons (Cert.cond rfl rfl (fun h => o_not (.w h))) ⟨rfl, rfl, trivial⟩ trivial
              (Chain.cons (Cert.cond rfl rfl (fun h => o_move (.w h) (by rfl))) ⟨rfl, rfl, trivial⟩ trivial
              (Chain.cons (Cert.cond2 rfl rfl (fun h => o_load (ag := true) (sz := 6) 103 .is (by kernel_rfl) (by kernel_rfl) (by kernel_rfl) (by rfl))) ⟨rfl, rfl, trivial⟩ ⟨rfl, trivial⟩
              (Chain.cons (Cert.cond2 rfl rfl (fun h => o_build (r := []) (zs := [.int .i64 0, .int .i64 0, .int .i64 0, .int .i64 0, .int .i64 0, .int .i64 0]) (pl := [(0, 1), (1, 1), (2, 1), (3, 1), (4, 1), (5, 1)]) (by kernel_rfl) (by kernel_rfl) .nil (by rfl))) ⟨rfl, trivial⟩ trivial
              (Chain.cons (Cert.cond2 rfl rfl (fun h => o_neqS (ks := [true, true, true, true, true, true]) (by kernel_rfl) (.w h) (.w h) (.int (.int (.int (.int (.int (.int .nil)))))))) ⟨rfl, rfl, rfl, trivial⟩ trivial
              (Chain.cons (Cert.cond rfl rfl (fun h => o_and2 (.w h) (.wc h))) ⟨rfl, rfl, rfl, trivial⟩ trivial
              (Chain.cons (Cert.free rfl (o_or2 .t .t)) ⟨rfl, rfl, trivial⟩ trivial
              (Chain.cons (Cert.free rfl (o_move .t (by rfl))) ⟨rfl, trivial⟩ trivial
              (Chain.cons (Cert.cond rfl rfl (fun h => o_move .t (by rfl))) ⟨rfl, rfl, trivial⟩ trivial
              (Chain.cons (Cert.condR rfl rfl (by rfl) (fun h => o_callG1 101 (len_c b (refRoom room) q2) Try.func11 rfl (by kernel_rfl) (Args.one (.w h)))) ⟨rfl, rfl, trivial⟩ ⟨rfl, trivial⟩
              (Chain.cons (Cert.cond rfl rfl (fun h => o_move .t (by rfl))) ⟨rfl, rfl, trivial⟩ trivial
              (Chain.cons (Cert.cond rfl rfl (fun h => o_len_sl Try.underlying26 (.w h))) ⟨rfl, rfl, trivial⟩ trivial
              (Chain.cons (Cert.cond rfl rfl (fun h => o_neq (.w h) (.w h))) ⟨rfl, rfl, rfl, trivial⟩ trivial
              (Chain.cons (Cert.free rfl (o_or2 .t .t)) ⟨rfl, rfl, trivial⟩ trivial
              (Chain.cons (Cert.free rfl (o_move .t (by rfl))) ⟨rfl, trivial⟩ trivial
              (Chain.cons (Cert.cond rfl rfl (fun h => o_move .t (by rfl))) ⟨rfl, rfl, trivial⟩ trivial
              (Chain.cons (Cert.condR rfl rfl (by rfl) (fun h => o_callG1 101 (room_c b (refRoom room) q2) Try.func12 rfl (by kernel_rfl) (Args.one (.w h)))) ⟨rfl, rfl, trivial⟩ ⟨rfl, trivial⟩
              (Chain.cons (Cert.cond rfl rfl (fun h => o_move .t (by rfl))) ⟨rfl, rfl, trivial⟩ trivial
              (Chain.cons (Cert.cond rfl rfl (fun h => o_callP (refRoom_c room) Try.func13 rfl (by kernel_rfl) (Args.one (.w h)))) ⟨rfl, rfl, trivial⟩ trivial
              (Chain.cons (Cert.cond rfl rfl (fun h => o_move .t (by rfl))) ⟨rfl, rfl, trivial⟩ trivial
              (Chain.cons (Cert.cond rfl rfl (fun h => o_len_sl Try.underlying26 (.w h))) ⟨rfl, rfl, trivial⟩ trivial
              (Chain.cons (Cert.cond rfl rfl (fun h => o_sub (.w h) (.w h))) ⟨rfl, rfl, rfl, trivial⟩ trivial
              (Chain.cons (Cert.cond rfl rfl (fun h => o_neq (.w h) (.w h))) ⟨rfl, rfl, rfl, trivial⟩ trivial
              (Chain.cons (Cert.free rfl (o_or2 .t .t)) ⟨rfl, rfl, trivial⟩ trivial
              Chain.nil)))))))))))))))))))))))))))))))))))))))))))))))))))
              (by kernel_rfl) (by rw [hB]; kernel_rfl) ?_
          clear hS; intro a w F hS
          replace hS := hS.norm [(0, _), (5, _), (6, _), (8, _), (9, _), (10, _), (11, _), (12, _), (13, _), (15, _), (16, _), (34, _), (35, _), (36, _), (37, _), (38, _), (39, _), (40, _), (41, _), (42, _), (43, _), (44, _), (45, _), (46, _), (47, _), (48, _), (49, _), (50, _), (51, _), (52, _), (53, _), (54, _), (55, _), (56, _), (57, _), (58, _), (59, _), (60, _), (61, _), (62, _), (63, _), (64, _), (65, _), (66, _), (67, _), (68, _), (92, _), (93, _), (94, _), (95, _), (96, _), (97, _), (98, _), (99, _), (100, _), (101, _), (102, _), (103, _), (104, _), (105, _), (106, _), (107, _), (108, _), (109, _), (110, _), (111, _), (112, _), (113, _), (114, _), (115, _), (116, _), (117, _), (118, _), (119, _), (120, _), (121, _), (122, _), (123, _), (124, _), (125, _), (126, _), (127, _), (128, _), (129, _), (130, _), (131, _), (132, _), (133, _), (134, _), (135, _), (136, _), (137, _), (138, _), (139, _), (140, _), (141, _), (142, _), (143, _), (144, _), (145, _), (146, _), (147, _), (148, _), (149, _)] [(0, _), (101, _), (102, _), (103, _)] ⟨rfl, rfl, rfl, rfl, rfl, rfl, rfl, rfl, rfl, rfl, rfl, rfl, rfl, rfl, rfl, rfl, rfl, rfl, rfl, rfl, rfl, rfl, rfl, rfl, rfl, rfl, rfl, rfl, rfl, rfl, rfl, rfl, rfl, rfl, rfl, rfl, rfl, rfl, rfl, rfl, rfl, rfl, rfl, rfl, rfl, rfl, rfl, rfl, rfl, rfl, rfl, rfl, rfl, rfl, rfl, rfl, rfl, rfl, rfl, rfl, rfl, rfl, rfl, rfl, rfl, rfl, rfl, rfl, rfl, rfl, rfl, rfl, rfl, rfl, rfl, rfl, rfl, rfl, rfl, rfl, rfl, rfl, rfl, rfl, rfl, rfl, rfl, rfl, rfl, rfl, rfl, rfl, rfl, rfl, rfl, rfl, rfl, rfl, rfl, rfl, rfl, rfl, rfl, rfl, trivial⟩ ⟨rfl, rfl, rfl, rfl, trivial⟩
          obtain ⟨F, hS⟩ := hS
          try dsimp only [RS.sub, SF.sub, CF.sub, csub, Anc.sub, stCells, List.map, List.length_cons, List.length_nil, Nat.reduceAdd, List.drop_succ_cons, List.drop_zero, List.drop_nil, List.take_succ_cons, List.take_zero, List.take_nil, List.cons_append, List.nil_append, zCF, ldSF] at hS
          refine then_n ?_
          refine cond_b hS rfl (fun hc4 => ?_) (fun hc4 => ?_)
          · skip
            have hR := refRoom_in room
            have hle := hI2.le
            rw [wrap_i64 (show -9223372036854775808 ≤ refRoom room - (q2.length : Int) ∧ refRoom room - (q2.length : Int) ≤ 9223372036854775807 by omega)] at hc4
            by_cases hb : 1 ≤ d.n ∧ d.n ≤ q2.length
            · rw [show getP q2 d.n = (nth q2 (d.n - 1).toNat, true) from if_pos hb, wrap_i64 (show -9223372036854775808 ≤ d.n - 1 ∧ d.n - 1 ≤ 9223372036854775807 by omega), and_yes hb] at hc4; simp at hc4
            · rw [show getP q2 d.n = (default, false) from if_neg hb, and_no hb] at hc4; simp [show (default : Cell) = ⟨0, 0, 0, 0, 0, 0⟩ from rfl] at hc4
          · skip
            refine wp_skip ?_
            refine block_n ?_
            refine then_n ?_
            refine region_seq hS (by kernel_rfl)
                (Chain.cons (Cert.free rfl (o_add .t (.ci (by kernel_rfl)))) ⟨rfl, trivial⟩ trivial
                (Chain.cons (Cert.free rfl (o_move .t (by rfl))) ⟨rfl, trivial⟩ trivial
                Chain.nil))
                (by kernel_rfl) (by rw [hB]; kernel_rfl) ?_
            clear hS; intro a w F hS
            replace hS := hS.norm [(0, _), (5, _), (6, _), (8, _), (9, _), (10, _), (11, _), (12, _), (13, _), (15, _), (16, _), (34, _), (35, _), (36, _), (37, _), (38, _), (39, _), (40, _), (41, _), (42, _), (43, _), (44, _), (45, _), (46, _), (47, _), (48, _), (49, _), (50, _), (51, _), (52, _), (53, _), (54, _), (55, _), (56, _), (57, _), (58, _), (59, _), (60, _), (61, _), (62, _), (63, _), (64, _), (65, _), (66, _), (67, _), (68, _), (92, _), (93, _), (94, _), (95, _), (96, _), (97, _), (98, _), (99, _), (100, _), (101, _), (102, _), (103, _), (104, _), (105, _), (106, _), (107, _), (108, _), (109, _), (110, _), (111, _), (112, _), (113, _), (114, _), (115, _), (116, _), (117, _), (118, _), (119, _), (120, _), (121, _), (122, _), (123, _), (124, _), (125, _), (126, _), (127, _), (128, _), (129, _), (130, _), (131, _), (132, _), (133, _), (134, _), (135, _), (136, _), (137, _), (138, _), (139, _), (140, _), (141, _), (142, _), (143, _), (144, _), (145, _), (146, _), (147, _), (148, _), (149, _), (150, _)] [(0, _), (101, _), (102, _), (103, _)] ⟨rfl, rfl, rfl, rfl, rfl, rfl, rfl, rfl, rfl, rfl, rfl, rfl, rfl, rfl, rfl, rfl, rfl, rfl, rfl, rfl, rfl, rfl, rfl, rfl, rfl, rfl, rfl, rfl, rfl, rfl, rfl, rfl, rfl, rfl, rfl, rfl, rfl, rfl, rfl, rfl, rfl, rfl, rfl, rfl, rfl, rfl, rfl, rfl, rfl, rfl, rfl, rfl, rfl, rfl, rfl, rfl, rfl, rfl, rfl, rfl, rfl, rfl, rfl, rfl, rfl, rfl, rfl, rfl, rfl, rfl, rfl, rfl, rfl, rfl, rfl, rfl, rfl, rfl, rfl, rfl, rfl, rfl, rfl, rfl, rfl, rfl, rfl, rfl, rfl, rfl, rfl, rfl, rfl, rfl, rfl, rfl, rfl, rfl, rfl, rfl, rfl, rfl, rfl, rfl, rfl, trivial⟩ ⟨rfl, rfl, rfl, rfl, trivial⟩
            obtain ⟨F, hS⟩ := hS
            try dsimp only [RS.sub, SF.sub, CF.sub, csub, Anc.sub, stCells, List.map, List.length_cons, List.length_nil, Nat.reduceAdd, List.drop_succ_cons, List.drop_zero, List.drop_nil, List.take_succ_cons, List.take_zero, List.take_nil, List.cons_append, List.nil_append, zCF, ldSF] at hS
            refine then_n ?_
            replace hS := hS.ent (i := 36) (s' := .pv (.int .i64 ((i + 1 : Nat) : Int))) rfl (.int (wrap_succ (by omega)))
            replace hS := hS.norm [(0, _), (5, _), (6, _), (34, _), (35, _), (36, _)] [(0, _), (101, _)] ⟨rfl, rfl, rfl, rfl, rfl, rfl, trivial⟩ ⟨rfl, rfl, trivial⟩
            obtain ⟨F, hS⟩ := hS
            exact ⟨(i + 1, q2), F, ⟨by omega, hI2⟩, hS, by dsimp only; omega⟩
      · skip
        refine wp_seq ?_
        refine region_seq hS (by kernel_rfl)
            (Chain.cons (Cert.free rfl (o_eql .t (.ci (by kernel_rfl)))) ⟨rfl, trivial⟩ trivial
            (Chain.cons (Cert.free rfl (o_assign .t (by rfl))) ⟨rfl, trivial⟩ trivial
            Chain.nil))
            (by kernel_rfl) (by rw [hB]; kernel_rfl) ?_
        clear hS; intro a w F hS
        replace hS := hS.norm [(0, _), (5, _), (6, _), (8, _), (34, _), (35, _), (36, _), (37, _), (38, _), (39, _), (40, _), (41, _), (42, _), (43, _), (69, _), (70, _)] [(0, _), (101, _), (102, _)] ⟨rfl, rfl, rfl, rfl, rfl, rfl, rfl, rfl, rfl, rfl, rfl, rfl, rfl, rfl, rfl, rfl, trivial⟩ ⟨rfl, rfl, rfl, trivial⟩
        obtain ⟨F, hS⟩ := hS
        try dsimp only [RS.sub, SF.sub, CF.sub, csub, Anc.sub, stCells, List.map, List.length_cons, List.length_nil, Nat.reduceAdd, List.drop_succ_cons, List.drop_zero, List.drop_nil, List.take_succ_cons, List.take_zero, List.take_nil, List.cons_append, List.nil_append, zCF, ldSF] at hS
        refine then_n ?_
        refine cond_b hS rfl (fun hc5 => ?_) (fun hc5 => ?_)
        · skip
          refine wp_seq ?_
          refine region_seq hS (by kernel_rfl)
              (Chain.cons (Cert.free rfl (o_fieldAddr (off := 7) 102 .is (by kernel_rfl) (by rfl))) ⟨rfl, trivial⟩ ⟨rfl, trivial⟩
              (Chain.cons (Cert.free rfl (o_load (ag := false) (sz := 1) 102 .adr (by kernel_rfl) (by kernel_rfl) (by kernel_rfl) (by rfl))) ⟨rfl, trivial⟩ ⟨rfl, trivial⟩
              (Chain.cons (Cert.free rfl (o_geq .t (.ci (by kernel_rfl)))) ⟨rfl, trivial⟩ trivial
              (Chain.cons (Cert.free rfl (o_move .t (by rfl))) ⟨rfl, trivial⟩ trivial
              (Chain.cons (Cert.cond rfl rfl (fun h => o_fieldAddr (off := 7) 102 .is (by kernel_rfl) (by rfl))) ⟨rfl, rfl, trivial⟩ ⟨rfl, trivial⟩
              (Chain.cons (Cert.cond rfl rfl (fun h => o_load (ag := false) (sz := 1) 102 (.w h .adr) (by kernel_rfl) (by kernel_rfl) (by kernel_rfl) (by rfl))) ⟨rfl, rfl, trivial⟩ ⟨rfl, trivial⟩
              (Chain.cons (Cert.cond rfl rfl (fun h => o_move .t (by rfl))) ⟨rfl, rfl, trivial⟩ trivial
              (Chain.cons (Cert.cond rfl rfl (fun h => o_len_sl Try.underlying26 (.w h))) ⟨rfl, rfl, trivial⟩ trivial
              (Chain.cons (Cert.cond rfl rfl (fun h => o_leq (.w h) (.w h))) ⟨rfl, rfl, rfl, trivial⟩ trivial
              (Chain.cons (Cert.free rfl (o_and2 .t .t)) ⟨rfl, rfl, trivial⟩ trivial
              (Chain.cons (Cert.free rfl (o_assign .t (by rfl))) ⟨rfl, trivial⟩ trivial
              Chain.nil)))))))))))
              (by kernel_rfl) (by rw [hB]; kernel_rfl) ?_
          clear hS; intro a w F hS
          replace hS := hS.norm [(0, _), (5, _), (6, _), (8, _), (14, _), (34, _), (35, _), (36, _), (37, _), (38, _), (39, _), (40, _), (41, _), (42, _), (43, _), (69, _), (70, _), (71, _), (72, _), (73, _), (74, _), (75, _), (76, _), (77, _), (78, _), (79, _), (80, _)] [(0, _), (101, _), (102, _)] ⟨rfl, rfl, rfl, rfl, rfl, rfl, rfl, rfl, rfl, rfl, rfl, rfl, rfl, rfl, rfl, rfl, rfl, rfl, rfl, rfl, rfl, rfl, rfl, rfl, rfl, rfl, rfl, trivial⟩ ⟨rfl, rfl, rfl, trivial⟩
          obtain ⟨F, hS⟩ := hS
          try dsimp only [RS.sub, SF.sub, CF.sub, csub, Anc.sub, stCells, List.map, List.length_cons, List.length_nil, Nat.reduceAdd, List.drop_succ_cons, List.drop_zero, List.drop_nil, List.take_succ_cons, List.take_zero, List.take_nil, List.cons_append, List.nil_append, zCF, ldSF] at hS
          refine then_n ?_
          refine wp_seq ?_
          refine wp_seq ?_
          refine region_seq hS (by kernel_rfl)
              (Chain.cons (Cert.free rfl (o_move .t (by rfl))) ⟨rfl, trivial⟩ trivial
              (Chain.cons (Cert.free rfl (o_fieldAddr (off := 7) 102 .is (by kernel_rfl) (by rfl))) ⟨rfl, trivial⟩ ⟨rfl, trivial⟩
              (Chain.cons (Cert.free rfl (o_load (ag := false) (sz := 1) 102 .adr (by kernel_rfl) (by kernel_rfl) (by kernel_rfl) (by rfl))) ⟨rfl, trivial⟩ ⟨rfl, trivial⟩
              (Chain.cons (Cert.free rfl (o_callG1 101 (cut_c b (refRoom room) q d.n) Try.func9 rfl (by kernel_rfl) (Args.two .t .t))) ⟨rfl, rfl, trivial⟩ ⟨rfl, trivial⟩
              (Chain.cons (Cert.free rfl (o_move .t (by rfl))) ⟨rfl, trivial⟩ trivial
              (Chain.cons (Cert.free rfl (o_neqB Try.underlying4 .t .t)) ⟨rfl, rfl, trivial⟩ trivial
              Chain.nil))))))
              (by kernel_rfl) (by rw [hB]; kernel_rfl) ?_
          clear hS; intro a w F hS
          replace hS := hS.norm [(0, _), (5, _), (6, _), (8, _), (14, _), (34, _), (35, _), (36, _), (37, _), (38, _), (39, _), (40, _), (41, _), (42, _), (43, _), (69, _), (70, _), (71, _), (72, _), (73, _), (74, _), (75, _), (76, _), (77, _), (78, _), (79, _), (80, _), (81, _), (82, _), (83, _), (84, _), (85, _), (86, _)] [(0, _), (101, _), (102, _)] ⟨rfl, rfl, rfl, rfl, rfl, rfl, rfl, rfl, rfl, rfl, rfl, rfl, rfl, rfl, rfl, rfl, rfl, rfl, rfl, rfl, rfl, rfl, rfl, rfl, rfl, rfl, rfl, rfl, rfl, rfl, rfl, rfl, rfl, trivial⟩ ⟨rfl, rfl, rfl, trivial⟩
          obtain ⟨F, hS⟩ := hS
          try dsimp only [RS.sub, SF.sub, CF.sub, csub, Anc.sub, stCells, List.map, List.length_cons, List.length_nil, Nat.reduceAdd, List.drop_succ_cons, List.drop_zero, List.drop_nil, List.take_succ_cons, List.take_zero, List.take_nil, List.cons_append, List.nil_append, zCF, ldSF] at hS
          refine then_n ?_
          refine cond_b hS rfl (fun hc6 => ?_) (fun hc6 => ?_)
          · skip
            rw [cutIs_and] at hc6
            simp at hc6
          · skip
            refine wp_skip ?_
            refine then_n ?_
            refine wp_seq ?_
            refine region_seq hS (by kernel_rfl)
                (Chain.cons (Cert.free rfl (o_move .t (by rfl))) ⟨rfl, trivial⟩ trivial
                Chain.nil)
                (by kernel_rfl) (by rw [hB]; kernel_rfl) ?_
            clear hS; intro a w F hS
            replace hS := hS.norm [(0, _), (5, _), (6, _), (8, _), (14, _), (34, _), (35, _), (36, _), (37, _), (38, _), (39, _), (40, _), (41, _), (42, _), (43, _), (69, _), (70, _), (71, _), (72, _), (73, _), (74, _), (75, _), (76, _), (77, _), (78, _), (79, _), (80, _), (81, _), (82, _), (83, _), (84, _), (85, _), (86, _), (87, _)] [(0, _), (101, _), (102, _)] ⟨rfl, rfl, rfl, rfl, rfl, rfl, rfl, rfl, rfl, rfl, rfl, rfl, rfl, rfl, rfl, rfl, rfl, rfl, rfl, rfl, rfl, rfl, rfl, rfl, rfl, rfl, rfl, rfl, rfl, rfl, rfl, rfl, rfl, rfl, trivial⟩ ⟨rfl, rfl, rfl, trivial⟩
            obtain ⟨F, hS⟩ := hS
            try dsimp only [RS.sub, SF.sub, CF.sub, csub, Anc.sub, stCells, List.map, List.length_cons, List.length_nil, Nat.reduceAdd, List.drop_succ_cons, List.drop_zero, List.drop_nil, List.take_succ_cons, List.take_zero, List.take_nil, List.cons_append, List.nil_append, zCF, ldSF] at hS
            refine then_n ?_
            refine cond_b hS rfl (fun hc7 => ?_) (fun hc7 => ?_)
            · skip
              have hcb : 0 ≤ d.n ∧ d.n ≤ q.length := by rw [← cutIs_and] at hc7; exact of_decide_eq_true hc7
              have hcl : cutL q d.n = q.take d.n.toNat := if_pos hcb
              refine region_seq hS (by kernel_rfl)
                  (Chain.cons (Cert.free rfl (o_move .t (by rfl))) ⟨rfl, trivial⟩ trivial
                  (Chain.cons (Cert.free rfl (o_fieldAddr (off := 7) 102 .is (by kernel_rfl) (by rfl))) ⟨rfl, trivial⟩ ⟨rfl, trivial⟩
                  (Chain.cons (Cert.free rfl (o_load (ag := false) (sz := 1) 102 .adr (by kernel_rfl) (by kernel_rfl) (by kernel_rfl) (by rfl))) ⟨rfl, trivial⟩ ⟨rfl, trivial⟩
                  (Chain.cons (Cert.free rfl (o_slice_hi (sz := 6) (.mk Try.underlying26 (by kernel_rfl)) (by intro x; rfl) .t .t hcb.1 hcb.2)) ⟨rfl, rfl, trivial⟩ trivial
                  (Chain.cons (Cert.free rfl (o_assign .t (by rfl))) ⟨rfl, trivial⟩ trivial
                  Chain.nil)))))
                  (by kernel_rfl) (by rw [hB]; kernel_rfl) ?_
              clear hS; intro a w F hS
              replace hS := hS.norm [(0, _), (5, _), (6, _), (8, _), (14, _), (34, _), (35, _), (36, _), (37, _), (38, _), (39, _), (40, _), (41, _), (42, _), (43, _), (69, _), (70, _), (71, _), (72, _), (73, _), (74, _), (75, _), (76, _), (77, _), (78, _), (79, _), (80, _), (81, _), (82, _), (83, _), (84, _), (85, _), (86, _), (87, _), (88, _), (89, _), (90, _), (91, _)] [(0, _), (101, _), (102, _)] ⟨rfl, rfl, rfl, rfl, rfl, rfl, rfl, rfl, rfl, rfl, rfl, rfl, rfl, rfl, rfl, rfl, rfl, rfl, rfl, rfl, rfl, rfl, rfl, rfl, rfl, rfl, rfl, rfl, rfl, rfl, rfl, rfl, rfl, rfl, rfl, rfl, rfl, rfl, trivial⟩ ⟨rfl, rfl, rfl, trivial⟩
              obtain ⟨F, hS⟩ := hS
              try dsimp only [RS.sub, SF.sub, CF.sub, csub, Anc.sub, stCells, List.map, List.length_cons, List.length_nil, Nat.reduceAdd, List.drop_succ_cons, List.drop_zero, List.drop_nil, List.take_succ_cons, List.take_zero, List.take_nil, List.cons_append, List.nil_append, zCF, ldSF] at hS
              replace hS := hS.ent (i := 6) rfl (Ent.sl (show _ = cutL q d.n from hcl.symm))
              obtain ⟨q2, hq2⟩ : ∃ q2, q2 = (cutL q d.n) := ⟨_, rfl⟩
              rw [← hq2] at hS
              have hI2 : ArOk (refRoom room) q2 := by rw [hq2]; exact hI.cut _
              have hz2 := hI2.sz
              refine block_n ?_
              refine then_n ?_
              refine wp_seq ?_
              refine region_seq hS (by kernel_rfl)
                  (Chain.cons (Cert.free rfl (o_move .t (by rfl))) ⟨rfl, trivial⟩ trivial
                  (Chain.cons (Cert.free rfl (o_fieldAddr (off := 7) 102 .is (by kernel_rfl) (by rfl))) ⟨rfl, trivial⟩ ⟨rfl, trivial⟩
                  (Chain.cons (Cert.free rfl (o_load (ag := false) (sz := 1) 102 .adr (by kernel_rfl) (by kernel_rfl) (by kernel_rfl) (by rfl))) ⟨rfl, trivial⟩ ⟨rfl, trivial⟩
                  (Chain.cons (Cert.free rfl (o_callG1 101 (get_c b (refRoom room) q2 d.n) Try.func10 rfl (by kernel_rfl) (Args.two .t .t))) ⟨rfl, rfl, trivial⟩ ⟨rfl, trivial⟩
                  (Chain.cons (Cert.free rfl (o_move .t (by rfl))) ⟨rfl, trivial⟩ trivial
                  (Chain.cons (Cert.free rfl (o_extract .t rfl)) ⟨rfl, trivial⟩ trivial
                  (Chain.cons (Cert.free rfl (o_extract .t rfl)) ⟨rfl, trivial⟩ trivial
                  (Chain.cons (Cert.free rfl (o_alloc (zs := [.int .i64 0, .int .i64 0, .int .i64 0, .int .i64 0, .int .i64 0, .int .i64 0]) 104 (by kernel_rfl))) trivial trivial
                  (Chain.cons (Cert.free rfl (o_storeA (sz := 6) 104 .same (.conv .t .agg) (by kernel_rfl) (by kernel_rfl) (by kernel_rfl))) ⟨rfl, rfl, trivial⟩ ⟨rfl, trivial⟩
                  (Chain.cons (Cert.free rfl (o_assign .t (by rfl))) ⟨rfl, trivial⟩ trivial
                  Chain.nil))))))))))
                  (by kernel_rfl) (by rw [hB]; kernel_rfl) ?_
              clear hS; intro a w F hS
              replace hS := hS.sub
              replace hS := hS.norm [(0, _), (5, _), (6, _), (8, _), (14, _), (15, _), (16, _), (34, _), (35, _), (36, _), (37, _), (38, _), (39, _), (40, _), (41, _), (42, _), (43, _), (69, _), (70, _), (71, _), (72, _), (73, _), (74, _), (75, _), (76, _), (77, _), (78, _), (79, _), (80, _), (81, _), (82, _), (83, _), (84, _), (85, _), (86, _), (87, _), (88, _), (89, _), (90, _), (91, _), (92, _), (93, _), (94, _), (95, _), (96, _), (97, _), (98, _)] [(0, _), (101, _), (102, _), (104, _)] ⟨rfl, rfl, rfl, rfl, rfl, rfl, rfl, rfl, rfl, rfl, rfl, rfl, rfl, rfl, rfl, rfl, rfl, rfl, rfl, rfl, rfl, rfl, rfl, rfl, rfl, rfl, rfl, rfl, rfl, rfl, rfl, rfl, rfl, rfl, rfl, rfl, rfl, rfl, rfl, rfl, rfl, rfl, rfl, rfl, rfl, rfl, rfl, trivial⟩ ⟨rfl, rfl, rfl, rfl, trivial⟩
              obtain ⟨F, hS⟩ := hS
              try dsimp only [RS.sub, SF.sub, CF.sub, csub, Anc.sub, stCells, List.map, List.length_cons, List.length_nil, Nat.reduceAdd, List.drop_succ_cons, List.drop_zero, List.drop_nil, List.take_succ_cons, List.take_zero, List.take_nil, List.cons_append, List.nil_append, zCF, ldSF] at hS
              generalize Act.tau a 15 = v15 at hS
              refine then_n ?_
              refine wp_seq ?_
              refine region_any (by kernel_rfl) hS (by kernel_rfl)
                  (Chain.cons (Cert.free rfl (o_move .t (by rfl))) ⟨rfl, trivial⟩ trivial
                  (Chain.cons (Cert.free rfl (o_fieldAddr (off := 7) 102 .is (by kernel_rfl) (by rfl))) ⟨rfl, trivial⟩ ⟨rfl, trivial⟩
                  (Chain.cons (Cert.free rfl (o_load (ag := false) (sz := 1) 102 .adr (by kernel_rfl) (by kernel_rfl) (by kernel_rfl) (by rfl))) ⟨rfl, trivial⟩ ⟨rfl, trivial⟩
                  (Chain.cons (Cert.free rfl (o_geq .t (.ci (by kernel_rfl)))) ⟨rfl, trivial⟩ trivial
                  (Chain.cons (Cert.free rfl (o_move .t (by rfl))) ⟨rfl, trivial⟩ trivial
                  (Chain.cons (Cert.cond rfl rfl (fun h => o_fieldAddr (off := 7) 102 .is (by kernel_rfl) (by rfl))) ⟨rfl, rfl, trivial⟩ ⟨rfl, trivial⟩
                  (Chain.cons (Cert.cond rfl rfl (fun h => o_load (ag := false) (sz := 1) 102 (.w h .adr) (by kernel_rfl) (by kernel_rfl) (by kernel_rfl) (by rfl))) ⟨rfl, rfl, trivial⟩ ⟨rfl, trivial⟩
                  (Chain.cons (Cert.cond rfl rfl (fun h => o_move .t (by rfl))) ⟨rfl, rfl, trivial⟩ trivial
                  (Chain.cons (Cert.cond rfl rfl (fun h => o_len_sl Try.underlying26 (.w h))) ⟨rfl, rfl, trivial⟩ trivial
                  (Chain.cons (Cert.cond rfl rfl (fun h => o_leq (.w h) (.w h))) ⟨rfl, rfl, rfl, trivial⟩ trivial
                  (Chain.cons (Cert.free rfl (o_and2 .t .t)) ⟨rfl, rfl, trivial⟩ trivial
                  (Chain.cons (Cert.free rfl (o_neqB Try.underlying4 .t .t)) ⟨rfl, rfl, trivial⟩ trivial
                  (Chain.cons (Cert.free rfl (o_move .t (by rfl))) ⟨rfl, trivial⟩ trivial
                  (Chain.cons (Cert.cond rfl rfl (fun h => o_move .t (by rfl))) ⟨rfl, rfl, trivial⟩ trivial
                  (Chain.cons (Cert.cond rfl rfl (fun h => o_move (.w h) (by rfl))) ⟨rfl, rfl, trivial⟩ trivial
                  (Chain.cons (Cert.cond2 rfl rfl (fun h => o_load (ag := true) (sz := 6) 104 .is (by kernel_rfl) (by kernel_rfl) (by kernel_rfl) (by rfl))) ⟨rfl, rfl, trivial⟩ ⟨rfl, trivial⟩
                  (Chain.cons (Cert.cond2 rfl rfl (fun h => o_move .t (by rfl))) ⟨rfl, rfl, trivial⟩ trivial
                  (Chain.cons (Cert.cond2 rfl rfl (fun h => o_fieldAddr (off := 7) 102 .is (by kernel_rfl) (by rfl))) ⟨rfl, rfl, trivial⟩ ⟨rfl, trivial⟩
                  (Chain.cons (Cert.cond2 rfl rfl (fun h => o_load (ag := false) (sz := 1) 102 (.w h .adr) (by kernel_rfl) (by kernel_rfl) (by kernel_rfl) (by rfl))) ⟨rfl, rfl, trivial⟩ ⟨rfl, trivial⟩
                  (Chain.cons (Cert.cond2 rfl rfl (fun h => o_sub (.w h) (.ci (by kernel_rfl)))) ⟨rfl, rfl, trivial⟩ trivial
                  (Chain.cons (Cert.cond2 rfl rfl (fun h => o_indexAddr_sl (sz := 6) (.mk Try.underlying26 (by kernel_rfl)) (by intro x; rfl) (.w h) (.w h) (idx_ok hI2 h.2).1 (idx_ok hI2 h.2).2)) ⟨rfl, rfl, rfl, trivial⟩ trivial
                  (Chain.cons (Cert.cond2 rfl rfl (fun h => o_load_ref (ag := true) (sz := 6) (.w h) (by kernel_rfl) (by kernel_rfl) (by kernel_rfl))) ⟨rfl, rfl, trivial⟩ trivial
                  (Chain.cons (Cert.cond2 rfl rfl (fun h => o_neqS (ks := [true, true, true, true, true, true]) (by kernel_rfl) (.w h) (.w h) (.int (.int (.int (.int (.int (.int .nil)))))))) ⟨rfl, rfl, rfl, trivial⟩ trivial
                  (Chain.cons (Cert.cond rfl rfl (fun h => o_and2 (.w h) (.wc h))) ⟨rfl, rfl, rfl, trivial⟩ trivial
                  (Chain.cons (Cert.free rfl (o_or2 .t .t)) ⟨rfl, rfl, trivial⟩ trivial
                  (Chain.cons (Cert.free rfl (o_move .t (by rfl))) ⟨rfl, trivial⟩ trivial
                  (Chain.cons (Cert.cond rfl rfl (fun h => o_move .t (by rfl))) ⟨rfl, rfl, trivial⟩ trivial
                  (Chain.cons (Cert.cond rfl rfl (fun h => o_not (.w h))) ⟨rfl, rfl, trivial⟩ trivial
                  (Chain.cons (Cert.cond rfl rfl (fun h => o_move (.w h) (by rfl))) ⟨rfl, rfl, trivial⟩ trivial
                  (Chain.cons (Cert.cond2 rfl rfl (fun h => o_load (ag := true) (sz := 6) 104 .is (by kernel_rfl) (by kernel_rfl) (by kernel_rfl) (by rfl))) ⟨rfl, rfl, trivial⟩ ⟨rfl, trivial⟩
                  (Chain.cons (Cert.cond2 rfl rfl (fun h => o_build (r := []) (zs := [.int .i64 0, .int .i64 0, .int .i64 0, .int .i64 0, .int .i64 0, .int .i64 0]) (pl := [(0, 1), (1, 1), (2, 1), (3, 1), (4, 1), (5, 1)]) (by kernel_rfl) (by kernel_rfl) .nil (by rfl))) ⟨rfl, trivial⟩ trivial
                  (Chain.cons (Cert.cond2 rfl rfl (fun h => o_neqS (ks := [true, true, true, true, true, true]) (by kernel_rfl) (.w h) (.w h) (.int (.int (.int (.int (.int (.int .nil)))))))) ⟨rfl, rfl, rfl, trivial⟩ trivial
                  (Chain.cons (Cert.cond rfl rfl (fun h => o_and2 (.w h) (.wc h))) ⟨rfl, rfl, rfl, trivial⟩ trivial
                  (Chain.cons (Cert.free rfl (o_or2 .t .t)) ⟨rfl, rfl, trivial⟩ trivial
                  (Chain.cons (Cert.free rfl (o_move .t (by rfl))) ⟨rfl, trivial⟩ trivial
                  (Chain.cons (Cert.cond rfl rfl (fun h => o_move .t (by rfl))) ⟨rfl, rfl, trivial⟩ trivial
                  (Chain.cons (Cert.condR rfl rfl (by rfl) (fun h => o_callG1 101 (len_c b (refRoom room) q2) Try.func11 rfl (by kernel_rfl) (Args.one (.w h)))) ⟨rfl, rfl, trivial⟩ ⟨rfl, trivial⟩
                  (Chain.cons (Cert.cond rfl rfl (fun h => o_move .t (by rfl))) ⟨rfl, rfl, trivial⟩ trivial
                  (Chain.cons (Cert.cond rfl rfl (fun h => o_len_sl Try.underlying26 (.w h))) ⟨rfl, rfl, trivial⟩ trivial
                  (Chain.cons (Cert.cond rfl rfl (fun h => o_neq (.w h) (.w h))) ⟨rfl, rfl, rfl, trivial⟩ trivial
                  (Chain.cons (Cert.free rfl (o_or2 .t .t)) ⟨rfl, rfl, trivial⟩ trivial
                  (Chain.cons (Cert.free rfl (o_move .t (by rfl))) ⟨rfl, trivial⟩ trivial
                  (Chain.cons (Cert.cond rfl rfl (fun h => o_move .t (by rfl))) ⟨rfl, rfl, trivial⟩ trivial
                  (Chain.cons (Cert.condR rfl rfl (by rfl) (fun h => o_callG1 101 (room_c b (refRoom room) q2) Try.func12 rfl (by kernel_rfl) (Args.one (.w h)))) ⟨rfl, rfl, trivial⟩ ⟨rfl, trivial⟩
                  (Chain.cons (Cert.cond rfl rfl (fun h => o_move .t (by rfl))) ⟨rfl, rfl, trivial⟩ trivial
                  (Chain.cons (Cert.cond rfl rfl (fun h => o_callP (refRoom_c room) Try.func13 rfl (by kernel_rfl) (Args.one (.w h)))) ⟨rfl, rfl, trivial⟩ trivial
                  (Chain.cons (Cert.cond rfl rfl (fun h => o_move .t (by rfl))) ⟨rfl, rfl, trivial⟩ trivial
                  (Chain.cons (Cert.cond rfl rfl (fun h => o_len_sl Try.underlying26 (.w h))) ⟨rfl, rfl, trivial⟩ trivial
                  (Chain.cons (Cert.cond rfl rfl (fun h => o_sub (.w h) (.w h))) ⟨rfl, rfl, rfl, trivial⟩ trivial
                  (Chain.cons (Cert.cond rfl rfl (fun h => o_neq (.w h) (.w h))) ⟨rfl, rfl, rfl, trivial⟩ trivial
                  (Chain.cons (Cert.free rfl (o_or2 .t .t)) ⟨rfl, rfl, trivial⟩ trivial
                  Chain.nil)))))))))))))))))))))))))))))))))))))))))))))))))))
                  (by kernel_rfl) (by rw [hB]; kernel_rfl) ?_
              clear hS; intro a w F hS
              replace hS := hS.norm [(0, _), (5, _), (6, _), (8, _), (14, _), (15, _), (16, _), (34, _), (35, _), (36, _), (37, _), (38, _), (39, _), (40, _), (41, _), (42, _), (43, _), (69, _), (70, _), (71, _), (72, _), (73, _), (74, _), (75, _), (76, _), (77, _), (78, _), (79, _), (80, _), (81, _), (82, _), (83, _), (84, _), (85, _), (86, _), (87, _), (88, _), (89, _), (90, _), (91, _), (92, _), (93, _), (94, _), (95, _), (96, _), (97, _), (98, _), (99, _), (100, _), (101, _), (102, _), (103, _), (104, _), (105, _), (106, _), (107, _), (108, _), (109, _), (110, _), (111, _), (112, _), (113, _), (114, _), (115, _), (116, _), (117, _), (118, _), (119, _), (120, _), (121, _), (122, _), (123, _), (124, _), (125, _), (126, _), (127, _), (128, _), (129, _), (130, _), (131, _), (132, _), (133, _), (134, _), (135, _), (136, _), (137, _), (138, _), (139, _), (140, _), (141, _), (142, _), (143, _), (144, _), (145, _), (146, _), (147, _), (148, _), (149, _)] [(0, _), (101, _), (102, _), (104, _)] ⟨rfl, rfl, rfl, rfl, rfl, rfl, rfl, rfl, rfl, rfl, rfl, rfl, rfl, rfl, rfl, rfl, rfl, rfl, rfl, rfl, rfl, rfl, rfl, rfl, rfl, rfl, rfl, rfl, rfl, rfl, rfl, rfl, rfl, rfl, rfl, rfl, rfl, rfl, rfl, rfl, rfl, rfl, rfl, rfl, rfl, rfl, rfl, rfl, rfl, rfl, rfl, rfl, rfl, rfl, rfl, rfl, rfl, rfl, rfl, rfl, rfl, rfl, rfl, rfl, rfl, rfl, rfl, rfl, rfl, rfl, rfl, rfl, rfl, rfl, rfl, rfl, rfl, rfl, rfl, rfl, rfl, rfl, rfl, rfl, rfl, rfl, rfl, rfl, rfl, rfl, rfl, rfl, rfl, rfl, rfl, rfl, rfl, rfl, trivial⟩ ⟨rfl, rfl, rfl, rfl, trivial⟩
              obtain ⟨F, hS⟩ := hS
              try dsimp only [RS.sub, SF.sub, CF.sub, csub, Anc.sub, stCells, List.map, List.length_cons, List.length_nil, Nat.reduceAdd, List.drop_succ_cons, List.drop_zero, List.drop_nil, List.take_succ_cons, List.take_zero, List.take_nil, List.cons_append, List.nil_append, zCF, ldSF] at hS
              refine then_n ?_
              refine cond_b hS rfl (fun hc8 => ?_) (fun hc8 => ?_)
              · skip
                have hR := refRoom_in room
                have hle := hI2.le
                rw [wrap_i64 (show -9223372036854775808 ≤ refRoom room - (q2.length : Int) ∧ refRoom room - (q2.length : Int) ≤ 9223372036854775807 by omega)] at hc8
                by_cases hb : 1 ≤ d.n ∧ d.n ≤ q2.length
                · rw [show getP q2 d.n = (nth q2 (d.n - 1).toNat, true) from if_pos hb, wrap_i64 (show -9223372036854775808 ≤ d.n - 1 ∧ d.n - 1 ≤ 9223372036854775807 by omega), and_yes hb] at hc8; simp at hc8
                · rw [show getP q2 d.n = (default, false) from if_neg hb, and_no hb] at hc8; simp [show (default : Cell) = ⟨0, 0, 0, 0, 0, 0⟩ from rfl] at hc8
              · skip
                refine wp_skip ?_
                refine block_n ?_
                refine then_n ?_
                refine region_seq hS (by kernel_rfl)
                    (Chain.cons (Cert.free rfl (o_add .t (.ci (by kernel_rfl)))) ⟨rfl, trivial⟩ trivial
                    (Chain.cons (Cert.free rfl (o_move .t (by rfl))) ⟨rfl, trivial⟩ trivial
                    Chain.nil))
                    (by kernel_rfl) (by rw [hB]; kernel_rfl) ?_
                clear hS; intro a w F hS
                replace hS := hS.norm [(0, _), (5, _), (6, _), (8, _), (14, _), (15, _), (16, _), (34, _), (35, _), (36, _), (37, _), (38, _), (39, _), (40, _), (41, _), (42, _), (43, _), (69, _), (70, _), (71, _), (72, _), (73, _), (74, _), (75, _), (76, _), (77, _), (78, _), (79, _), (80, _), (81, _), (82, _), (83, _), (84, _), (85, _), (86, _), (87, _), (88, _), (89, _), (90, _), (91, _), (92, _), (93, _), (94, _), (95, _), (96, _), (97, _), (98, _), (99, _), (100, _), (101, _), (102, _), (103, _), (104, _), (105, _), (106, _), (107, _), (108, _), (109, _), (110, _), (111, _), (112, _), (113, _), (114, _), (115, _), (116, _), (117, _), (118, _), (119, _), (120, _), (121, _), (122, _), (123, _), (124, _), (125, _), (126, _), (127, _), (128, _), (129, _), (130, _), (131, _), (132, _), (133, _), (134, _), (135, _), (136, _), (137, _), (138, _), (139, _), (140, _), (141, _), (142, _), (143, _), (144, _), (145, _), (146, _), (147, _), (148, _), (149, _), (150, _)] [(0, _), (101, _), (102, _), (104, _)] ⟨rfl, rfl, rfl, rfl, rfl, rfl, rfl, rfl, rfl, rfl, rfl, rfl, rfl, rfl, rfl, rfl, rfl, rfl, rfl, rfl, rfl, rfl, rfl, rfl, rfl, rfl, rfl, rfl, rfl, rfl, rfl, rfl, rfl, rfl, rfl, rfl, rfl, rfl, rfl, rfl, rfl, rfl, rfl, rfl, rfl, rfl, rfl, rfl, rfl, rfl, rfl, rfl, rfl, rfl, rfl, rfl, rfl, rfl, rfl, rfl, rfl, rfl, rfl, rfl, rfl, rfl, rfl, rfl, rfl, rfl, rfl, rfl, rfl, rfl, rfl, rfl, rfl, rfl, rfl, rfl, rfl, rfl, rfl, rfl, rfl, rfl, rfl, rfl, rfl, rfl, rfl, rfl, rfl, rfl, rfl, rfl, rfl, rfl, rfl, trivial⟩ ⟨rfl, rfl, rfl, rfl, trivial⟩
                obtain ⟨F, hS⟩ := hS
                try dsimp only [RS.sub, SF.sub, CF.sub, csub, Anc.sub, stCells, List.map, List.length_cons, List.length_nil, Nat.reduceAdd, List.drop_succ_cons, List.drop_zero, List.drop_nil, List.take_succ_cons, List.take_zero, List.take_nil, List.cons_append, List.nil_append, zCF, ldSF] at hS
                refine then_n ?_
                replace hS := hS.ent (i := 36) (s' := .pv (.int .i64 ((i + 1 : Nat) : Int))) rfl (.int (wrap_succ (by omega)))
                replace hS := hS.norm [(0, _), (5, _), (6, _), (34, _), (35, _), (36, _)] [(0, _), (101, _)] ⟨rfl, rfl, rfl, rfl, rfl, rfl, trivial⟩ ⟨rfl, rfl, trivial⟩
                obtain ⟨F, hS⟩ := hS
                exact ⟨(i + 1, q2), F, ⟨by omega, hI2⟩, hS, by dsimp only; omega⟩
            · skip
              have hcb : ¬ (0 ≤ d.n ∧ d.n ≤ q.length) := by rw [← cutIs_and] at hc7; exact of_decide_eq_false hc7
              have hcl : cutL q d.n = q := if_neg hcb
              rw [hcl] at hS
              obtain ⟨q2, hq2⟩ : ∃ q2, q2 = q := ⟨_, rfl⟩
              rw [← hq2] at hS
              have hI2 : ArOk (refRoom room) q2 := by rw [hq2]; exact hI
              have hz2 := hI2.sz
              refine wp_skip ?_
              refine block_n ?_
              refine then_n ?_
              refine wp_seq ?_
              refine region_seq hS (by kernel_rfl)
                  (Chain.cons (Cert.free rfl (o_move .t (by rfl))) ⟨rfl, trivial⟩ trivial
                  (Chain.cons (Cert.free rfl (o_fieldAddr (off := 7) 102 .is (by kernel_rfl) (by rfl))) ⟨rfl, trivial⟩ ⟨rfl, trivial⟩
                  (Chain.cons (Cert.free rfl (o_load (ag := false) (sz := 1) 102 .adr (by kernel_rfl) (by kernel_rfl) (by kernel_rfl) (by rfl))) ⟨rfl, trivial⟩ ⟨rfl, trivial⟩
                  (Chain.cons (Cert.free rfl (o_callG1 101 (get_c b (refRoom room) q2 d.n) Try.func10 rfl (by kernel_rfl) (Args.two .t .t))) ⟨rfl, rfl, trivial⟩ ⟨rfl, trivial⟩
                  (Chain.cons (Cert.free rfl (o_move .t (by rfl))) ⟨rfl, trivial⟩ trivial
                  (Chain.cons (Cert.free rfl (o_extract .t rfl)) ⟨rfl, trivial⟩ trivial
                  (Chain.cons (Cert.free rfl (o_extract .t rfl)) ⟨rfl, trivial⟩ trivial
                  (Chain.cons (Cert.free rfl (o_alloc (zs := [.int .i64 0, .int .i64 0, .int .i64 0, .int .i64 0, .int .i64 0, .int .i64 0]) 105 (by kernel_rfl))) trivial trivial
                  (Chain.cons (Cert.free rfl (o_storeA (sz := 6) 105 .same (.conv .t .agg) (by kernel_rfl) (by kernel_rfl) (by kernel_rfl))) ⟨rfl, rfl, trivial⟩ ⟨rfl, trivial⟩
                  (Chain.cons (Cert.free rfl (o_assign .t (by rfl))) ⟨rfl, trivial⟩ trivial
                  Chain.nil))))))))))
                  (by kernel_rfl) (by rw [hB]; kernel_rfl) ?_
              clear hS; intro a w F hS
              replace hS := hS.sub
              replace hS := hS.norm [(0, _), (5, _), (6, _), (8, _), (14, _), (15, _), (16, _), (34, _), (35, _), (36, _), (37, _), (38, _), (39, _), (40, _), (41, _), (42, _), (43, _), (69, _), (70, _), (71, _), (72, _), (73, _), (74, _), (75, _), (76, _), (77, _), (78, _), (79, _), (80, _), (81, _), (82, _), (83, _), (84, _), (85, _), (86, _), (87, _), (92, _), (93, _), (94, _), (95, _), (96, _), (97, _), (98, _)] [(0, _), (101, _), (102, _), (105, _)] ⟨rfl, rfl, rfl, rfl, rfl, rfl, rfl, rfl, rfl, rfl, rfl, rfl, rfl, rfl, rfl, rfl, rfl, rfl, rfl, rfl, rfl, rfl, rfl, rfl, rfl, rfl, rfl, rfl, rfl, rfl, rfl, rfl, rfl, rfl, rfl, rfl, rfl, rfl, rfl, rfl, rfl, rfl, rfl, trivial⟩ ⟨rfl, rfl, rfl, rfl, trivial⟩
              obtain ⟨F, hS⟩ := hS
              try dsimp only [RS.sub, SF.sub, CF.sub, csub, Anc.sub, stCells, List.map, List.length_cons, List.length_nil, Nat.reduceAdd, List.drop_succ_cons, List.drop_zero, List.drop_nil, List.take_succ_cons, List.take_zero, List.take_nil, List.cons_append, List.nil_append, zCF, ldSF] at hS
              generalize Act.tau a 15 = v15 at hS
              refine then_n ?_
              refine wp_seq ?_
              refine region_any (by kernel_rfl) hS (by kernel_rfl)
                  (Chain.cons (Cert.free rfl (o_move .t (by rfl))) ⟨rfl, trivial⟩ trivial
                  (Chain.cons (Cert.free rfl (o_fieldAddr (off := 7) 102 .is (by kernel_rfl) (by rfl))) ⟨rfl, trivial⟩ ⟨rfl, trivial⟩
                  (Chain.cons (Cert.free rfl (o_load (ag := false) (sz := 1) 102 .adr (by kernel_rfl) (by kernel_rfl) (by kernel_rfl) (by rfl))) ⟨rfl, trivial⟩ ⟨rfl, trivial⟩
                  (Chain.cons (Cert.free rfl (o_geq .t (.ci (by kernel_rfl)))) ⟨rfl, trivial⟩ trivial
                  (Chain.cons (Cert.free rfl (o_move .t (by rfl))) ⟨rfl, trivial⟩ trivial
                  (Chain.cons (Cert.cond rfl rfl (fun h => o_fieldAddr (off := 7) 102 .is (by kernel_rfl) (by rfl))) ⟨rfl, rfl, trivial⟩ ⟨rfl, trivial⟩
                  (Chain.cons (Cert.cond rfl rfl (fun h => o_load (ag := false) (sz := 1) 102 (.w h .adr) (by kernel_rfl) (by kernel_rfl) (by kernel_rfl) (by rfl))) ⟨rfl, rfl, trivial⟩ ⟨rfl, trivial⟩
                  (Chain.cons (Cert.cond rfl rfl (fun h => o_move .t (by rfl))) ⟨rfl, rfl, trivial⟩ trivial
                  (Chain.cons (Cert.cond rfl rfl (fun h => o_len_sl Try.underlying26 (.w h))) ⟨rfl, rfl, trivial⟩ trivial
                  (Chain.cons (Cert.cond rfl rfl (fun h => o_leq (.w h) (.w h))) ⟨rfl, rfl, rfl, trivial⟩ trivial
                  (Chain.cons (Cert.free rfl (o_and2 .t .t)) ⟨rfl, rfl, trivial⟩ trivial
                  (Chain.cons (Cert.free rfl (o_neqB Try.underlying4 .t .t)) ⟨rfl, rfl, trivial⟩ trivial
                  (Chain.cons (Cert.free rfl (o_move .t (by rfl))) ⟨rfl, trivial⟩ trivial
                  (Chain.cons (Cert.cond rfl rfl (fun h => o_move .t (by rfl))) ⟨rfl, rfl, trivial⟩ trivial
                  (Chain.cons (Cert.cond rfl rfl (fun h => o_move (.w h) (by rfl))) ⟨rfl, rfl, trivial⟩ trivial
                  (Chain.cons (Cert.cond2 rfl rfl (fun h => o_load (ag := true) (sz := 6) 105 .is (by kernel_rfl) (by kernel_rfl) (by kernel_rfl) (by rfl))) ⟨rfl, rfl, trivial⟩ ⟨rfl, trivial⟩
                  (Chain.cons (Cert.cond2 rfl rfl (fun h => o_move .t (by rfl))) ⟨rfl, rfl, trivial⟩ trivial
                  (Chain.cons (Cert.cond2 rfl rfl (fun h => o_fieldAddr (off := 7) 102 .is (by kernel_rfl) (by rfl))) ⟨rfl, rfl, trivial⟩ ⟨rfl, trivial⟩
                  (Chain.cons (Cert.cond2 rfl rfl (fun h => o_load (ag := false) (sz := 1) 102 (.w h .adr) (by kernel_rfl) (by kernel_rfl) (by kernel_rfl) (by rfl))) ⟨rfl, rfl, trivial⟩ ⟨rfl, trivial⟩
                  (Chain.cons (Cert.cond2 rfl rfl (fun h => o_sub (.w h) (.ci (by kernel_rfl)))) ⟨rfl, rfl, trivial⟩ trivial
                  (Chain.cons (Cert.cond2 rfl rfl (fun h => o_indexAddr_sl (sz := 6) (.mk Try.underlying26 (by kernel_rfl)) (by intro x; rfl) (.w h) (.w h) (idx_ok hI2 h.2).1 (idx_ok hI2 h.2).2)) ⟨rfl, rfl, rfl, trivial⟩ trivial
                  (Chain.cons (Cert.cond2 rfl rfl (fun h => o_load_ref (ag := true) (sz := 6) (.w h) (by kernel_rfl) (by kernel_rfl) (by kernel_rfl))) ⟨rfl, rfl, trivial⟩ trivial
                  (Chain.cons (Cert.cond2 rfl rfl (fun h => o_neqS (ks := [true, true, true, true, true, true]) (by kernel_rfl) (.w h) (.w h) (.int (.int (.int (.int (.int (.int .nil)))))))) ⟨rfl, rfl, rfl, trivial⟩ trivial
                  (Chain.cons (Cert.cond rfl rfl (fun h => o_and2 (.w h) (.wc h))) ⟨rfl, rfl, rfl, trivial⟩ trivial
                  (Chain.cons (Cert.free rfl (o_or2 .t .t)) ⟨rfl, rfl, trivial⟩ trivial
                  (Chain.cons (Cert.free rfl (o_move .t (by rfl))) ⟨rfl, trivial⟩ trivial
                  (Chain.cons (Cert.cond rfl rfl (fun h => o_move .t (by rfl))) ⟨rfl, rfl, trivial⟩ trivial
                  (Chain.cons (Cert.cond rfl rfl (fun h => o_not (.w h))) ⟨rfl, rfl, trivial⟩ trivial
                  (Chain.cons (Cert.cond rfl rfl (fun h => o_move (.w h) (by rfl))) ⟨rfl, rfl, trivial⟩ trivial
                  (Chain.cons (Cert.cond2 rfl rfl (fun h => o_load (ag := true) (sz := 6) 105 .is (by kernel_rfl) (by kernel_rfl) (by kernel_rfl) (by rfl))) ⟨rfl, rfl, trivial⟩ ⟨rfl, trivial⟩
                  (Chain.cons (Cert.cond2 rfl rfl (fun h => o_build (r := []) (zs := [.int .i64 0, .int .i64 0, .int .i64 0, .int .i64 0, .int .i64 0, .int .i64 0]) (pl := [(0, 1), (1, 1), (2, 1), (3, 1), (4, 1), (5, 1)]) (by kernel_rfl) (by kernel_rfl) .nil (by rfl))) ⟨rfl, trivial⟩ trivial
                  (Chain.cons (Cert.cond2 rfl rfl (fun h => o_neqS (ks := [true, true, true, true, true, true]) (by kernel_rfl) (.w h) (.w h) (.int (.int (.int (.int (.int (.int .nil)))))))) ⟨rfl, rfl, rfl, trivial⟩ trivial
                  (Chain.cons (Cert.cond rfl rfl (fun h => o_and2 (.w h) (.wc h))) ⟨rfl, rfl, rfl, trivial⟩ trivial
                  (Chain.cons (Cert.free rfl (o_or2 .t .t)) ⟨rfl, rfl, trivial⟩ trivial
                  (Chain.cons (Cert.free rfl (o_move .t (by rfl))) ⟨rfl, trivial⟩ trivial
                  (Chain.cons (Cert.cond rfl rfl (fun h => o_move .t (by rfl))) ⟨rfl, rfl, trivial⟩ trivial
                  (Chain.cons (Cert.condR rfl rfl (by rfl) (fun h => o_callG1 101 (len_c b (refRoom room) q2) Try.func11 rfl (by kernel_rfl) (Args.one (.w h)))) ⟨rfl, rfl, trivial⟩ ⟨rfl, trivial⟩
                  (Chain.cons (Cert.cond rfl rfl (fun h => o_move .t (by rfl))) ⟨rfl, rfl, trivial⟩ trivial
                  (Chain.cons (Cert.cond rfl rfl (fun h => o_len_sl Try.underlying26 (.w h))) ⟨rfl, rfl, trivial⟩ trivial
                  (Chain.cons (Cert.cond rfl rfl (fun h => o_neq (.w h) (.w h))) ⟨rfl, rfl, rfl, trivial⟩ trivial
                  (Chain.cons (Cert.free rfl (o_or2 .t .t)) ⟨rfl, rfl, trivial⟩ trivial
                  (Chain.cons (Cert.free rfl (o_move .t (by rfl))) ⟨rfl, trivial⟩ trivial
                  (Chain.cons (Cert.cond rfl rfl (fun h => o_move .t (by rfl))) ⟨rfl, rfl, trivial⟩ trivial
                  (Chain.cons (Cert.condR rfl rfl (by rfl) (fun h => o_callG1 101 (room_c b (refRoom room) q2) Try.func12 rfl (by kernel_rfl) (Args.one (.w h)))) ⟨rfl, rfl, trivial⟩ ⟨rfl, trivial⟩
                  (Chain.cons (Cert.cond rfl rfl (fun h => o_move .t (by rfl))) ⟨rfl, rfl, trivial⟩ trivial
                  (Chain.cons (Cert.cond rfl rfl (fun h => o_callP (refRoom_c room) Try.func13 rfl (by kernel_rfl) (Args.one (.w h)))) ⟨rfl, rfl, trivial⟩ trivial
                  (Chain.cons (Cert.cond rfl rfl (fun h => o_move .t (by rfl))) ⟨rfl, rfl, trivial⟩ trivial
                  (Chain.cons (Cert.cond rfl rfl (fun h => o_len_sl Try.underlying26 (.w h))) ⟨rfl, rfl, trivial⟩ trivial
                  (Chain.cons (Cert.cond rfl rfl (fun h => o_sub (.w h) (.w h))) ⟨rfl, rfl, rfl, trivial⟩ trivial
                  (Chain.cons (Cert.cond rfl rfl (fun h => o_neq (.w h) (.w h))) ⟨rfl, rfl, rfl, trivial⟩ trivial
                  (Chain.cons (Cert.free rfl (o_or2 .t .t)) ⟨rfl, rfl, trivial⟩ trivial
                  Chain.nil)))))))))))))))))))))))))))))))))))))))))))))))))))
                  (by kernel_rfl) (by rw [hB]; kernel_rfl) ?_
              clear hS; intro a w F hS
              replace hS := hS.norm [(0, _), (5, _), (6, _), (8, _), (14, _), (15, _), (16, _), (34, _), (35, _), (36, _), (37, _), (38, _), (39, _), (40, _), (41, _), (42, _), (43, _), (69, _), (70, _), (71, _), (72, _), (73, _), (74, _), (75, _), (76, _), (77, _), (78, _), (79, _), (80, _), (81, _), (82, _), (83, _), (84, _), (85, _), (86, _), (87, _), (92, _), (93, _), (94, _), (95, _), (96, _), (97, _), (98, _), (99, _), (100, _), (101, _), (102, _), (103, _), (104, _), (105, _), (106, _), (107, _), (108, _), (109, _), (110, _), (111, _), (112, _), (113, _), (114, _), (115, _), (116, _), (117, _), (118, _), (119, _), (120, _), (121, _), (122, _), (123, _), (124, _), (125, _), (126, _), (127, _), (128, _), (129, _), (130, _), (131, _), (132, _), (133, _), (134, _), (135, _), (136, _), (137, _), (138, _), (139, _), (140, _), (141, _), (142, _), (143, _), (144, _), (145, _), (146, _), (147, _), (148, _), (149, _)] [(0, _), (101, _), (102, _), (105, _)] ⟨rfl, rfl, rfl, rfl, rfl, rfl, rfl, rfl, rfl, rfl, rfl, rfl, rfl, rfl, rfl, rfl, rfl, rfl, rfl, rfl, rfl, rfl, rfl, rfl, rfl, rfl, rfl, rfl, rfl, rfl, rfl, rfl, rfl, rfl, rfl, rfl, rfl, rfl, rfl, rfl, rfl, rfl, rfl, rfl, rfl, rfl, rfl, rfl, rfl, rfl, rfl, rfl, rfl, rfl, rfl, rfl, rfl, rfl, rfl, rfl, rfl, rfl, rfl, rfl, rfl, rfl, rfl, rfl, rfl, rfl, rfl, rfl, rfl, rfl, rfl, rfl, rfl, rfl, rfl, rfl, rfl, rfl, rfl, rfl, rfl, rfl, rfl, rfl, rfl, rfl, rfl, rfl, rfl, rfl, trivial⟩ ⟨rfl, rfl, rfl, rfl, trivial⟩
              obtain ⟨F, hS⟩ := hS
              try dsimp only [RS.sub, SF.sub, CF.sub, csub, Anc.sub, stCells, List.map, List.length_cons, List.length_nil, Nat.reduceAdd, List.drop_succ_cons, List.drop_zero, List.drop_nil, List.take_succ_cons, List.take_zero, List.take_nil, List.cons_append, List.nil_append, zCF, ldSF] at hS
              refine then_n ?_
              refine cond_b hS rfl (fun hc9 => ?_) (fun hc9 => ?_)
              · skip
                have hR := refRoom_in room
                have hle := hI2.le
                rw [wrap_i64 (show -9223372036854775808 ≤ refRoom room - (q2.length : Int) ∧ refRoom room - (q2.length : Int) ≤ 9223372036854775807 by omega)] at hc9
                by_cases hb : 1 ≤ d.n ∧ d.n ≤ q2.length
                · rw [show getP q2 d.n = (nth q2 (d.n - 1).toNat, true) from if_pos hb, wrap_i64 (show -9223372036854775808 ≤ d.n - 1 ∧ d.n - 1 ≤ 9223372036854775807 by omega), and_yes hb] at hc9; simp at hc9
                · rw [show getP q2 d.n = (default, false) from if_neg hb, and_no hb] at hc9; simp [show (default : Cell) = ⟨0, 0, 0, 0, 0, 0⟩ from rfl] at hc9
              · skip
                refine wp_skip ?_
                refine block_n ?_
                refine then_n ?_
                refine region_seq hS (by kernel_rfl)
                    (Chain.cons (Cert.free rfl (o_add .t (.ci (by kernel_rfl)))) ⟨rfl, trivial⟩ trivial
                    (Chain.cons (Cert.free rfl (o_move .t (by rfl))) ⟨rfl, trivial⟩ trivial
                    Chain.nil))
                    (by kernel_rfl) (by rw [hB]; kernel_rfl) ?_
                clear hS; intro a w F hS
                replace hS := hS.norm [(0, _), (5, _), (6, _), (8, _), (14, _), (15, _), (16, _), (34, _), (35, _), (36, _), (37, _), (38, _), (39, _), (40, _), (41, _), (42, _), (43, _), (69, _), (70, _), (71, _), (72, _), (73, _), (74, _), (75, _), (76, _), (77, _), (78, _), (79, _), (80, _), (81, _), (82, _), (83, _), (84, _), (85, _), (86, _), (87, _), (92, _), (93, _), (94, _), (95, _), (96, _), (97, _), (98, _), (99, _), (100, _), (101, _), (102, _), (103, _), (104, _), (105, _), (106, _), (107, _), (108, _), (109, _), (110, _), (111, _), (112, _), (113, _), (114, _), (115, _), (116, _), (117, _), (118, _), (119, _), (120, _), (121, _), (122, _), (123, _), (124, _), (125, _), (126, _), (127, _), (128, _), (129, _), (130, _), (131, _), (132, _), (133, _), (134, _), (135, _), (136, _), (137, _), (138, _), (139, _), (140, _), (141, _), (142, _), (143, _), (144, _), (145, _), (146, _), (147, _), (148, _), (149, _), (150, _)] [(0, _), (101, _), (102, _), (105, _)] ⟨rfl, rfl, rfl, rfl, rfl, rfl, rfl, rfl, rfl, rfl, rfl, rfl, rfl, rfl, rfl, rfl, rfl, rfl, rfl, rfl, rfl, rfl, rfl, rfl, rfl, rfl, rfl, rfl, rfl, rfl, rfl, rfl, rfl, rfl, rfl, rfl, rfl, rfl, rfl, rfl, rfl, rfl, rfl, rfl, rfl, rfl, rfl, rfl, rfl, rfl, rfl, rfl, rfl, rfl, rfl, rfl, rfl, rfl, rfl, rfl, rfl, rfl, rfl, rfl, rfl, rfl, rfl, rfl, rfl, rfl, rfl, rfl, rfl, rfl, rfl, rfl, rfl, rfl, rfl, rfl, rfl, rfl, rfl, rfl, rfl, rfl, rfl, rfl, rfl, rfl, rfl, rfl, rfl, rfl, rfl, trivial⟩ ⟨rfl, rfl, rfl, rfl, trivial⟩
                obtain ⟨F, hS⟩ := hS
                try dsimp only [RS.sub, SF.sub, CF.sub, csub, Anc.sub, stCells, List.map, List.length_cons, List.length_nil, Nat.reduceAdd, List.drop_succ_cons, List.drop_zero, List.drop_nil, List.take_succ_cons, List.take_zero, List.take_nil, List.cons_append, List.nil_append, zCF, ldSF] at hS
                refine then_n ?_
                replace hS := hS.ent (i := 36) (s' := .pv (.int .i64 ((i + 1 : Nat) : Int))) rfl (.int (wrap_succ (by omega)))
                replace hS := hS.norm [(0, _), (5, _), (6, _), (34, _), (35, _), (36, _)] [(0, _), (101, _)] ⟨rfl, rfl, rfl, rfl, rfl, rfl, trivial⟩ ⟨rfl, rfl, trivial⟩
                obtain ⟨F, hS⟩ := hS
                exact ⟨(i + 1, q2), F, ⟨by omega, hI2⟩, hS, by dsimp only; omega⟩
        · skip
          obtain ⟨q2, hq2⟩ : ∃ q2, q2 = q := ⟨_, rfl⟩
          rw [← hq2] at hS
          have hI2 : ArOk (refRoom room) q2 := by rw [hq2]; exact hI
          have hz2 := hI2.sz
          refine wp_skip ?_
          refine block_n ?_
          refine then_n ?_
          refine wp_seq ?_
          refine region_seq hS (by kernel_rfl)
              (Chain.cons (Cert.free rfl (o_move .t (by rfl))) ⟨rfl, trivial⟩ trivial
              (Chain.cons (Cert.free rfl (o_fieldAddr (off := 7) 102 .is (by kernel_rfl) (by rfl))) ⟨rfl, trivial⟩ ⟨rfl, trivial⟩
              (Chain.cons (Cert.free rfl (o_load (ag := false) (sz := 1) 102 .adr (by kernel_rfl) (by kernel_rfl) (by kernel_rfl) (by rfl))) ⟨rfl, trivial⟩ ⟨rfl, trivial⟩
              (Chain.cons (Cert.free rfl (o_callG1 101 (get_c b (refRoom room) q2 d.n) Try.func10 rfl (by kernel_rfl) (Args.two .t .t))) ⟨rfl, rfl, trivial⟩ ⟨rfl, trivial⟩
              (Chain.cons (Cert.free rfl (o_move .t (by rfl))) ⟨rfl, trivial⟩ trivial
              (Chain.cons (Cert.free rfl (o_extract .t rfl)) ⟨rfl, trivial⟩ trivial
              (Chain.cons (Cert.free rfl (o_extract .t rfl)) ⟨rfl, trivial⟩ trivial
              (Chain.cons (Cert.free rfl (o_alloc (zs := [.int .i64 0, .int .i64 0, .int .i64 0, .int .i64 0, .int .i64 0, .int .i64 0]) 106 (by kernel_rfl))) trivial trivial
              (Chain.cons (Cert.free rfl (o_storeA (sz := 6) 106 .same (.conv .t .agg) (by kernel_rfl) (by kernel_rfl) (by kernel_rfl))) ⟨rfl, rfl, trivial⟩ ⟨rfl, trivial⟩
              (Chain.cons (Cert.free rfl (o_assign .t (by rfl))) ⟨rfl, trivial⟩ trivial
              Chain.nil))))))))))
              (by kernel_rfl) (by rw [hB]; kernel_rfl) ?_
          clear hS; intro a w F hS
          replace hS := hS.sub
          replace hS := hS.norm [(0, _), (5, _), (6, _), (8, _), (15, _), (16, _), (34, _), (35, _), (36, _), (37, _), (38, _), (39, _), (40, _), (41, _), (42, _), (43, _), (69, _), (70, _), (92, _), (93, _), (94, _), (95, _), (96, _), (97, _), (98, _)] [(0, _), (101, _), (102, _), (106, _)] ⟨rfl, rfl, rfl, rfl, rfl, rfl, rfl, rfl, rfl, rfl, rfl, rfl, rfl, rfl, rfl, rfl, rfl, rfl, rfl, rfl, rfl, rfl, rfl, rfl, rfl, trivial⟩ ⟨rfl, rfl, rfl, rfl, trivial⟩
          obtain ⟨F, hS⟩ := hS
          try dsimp only [RS.sub, SF.sub, CF.sub, csub, Anc.sub, stCells, List.map, List.length_cons, List.length_nil, Nat.reduceAdd, List.drop_succ_cons, List.drop_zero, List.drop_nil, List.take_succ_cons, List.take_zero, List.take_nil, List.cons_append, List.nil_append, zCF, ldSF] at hS
          generalize Act.tau a 15 = v15 at hS
          refine then_n ?_
          refine wp_seq ?_
          refine region_any (by kernel_rfl) hS (by kernel_rfl)
              (Chain.cons (Cert.free rfl (o_move .t (by rfl))) ⟨rfl, trivial⟩ trivial
              (Chain.cons (Cert.free rfl (o_fieldAddr (off := 7) 102 .is (by kernel_rfl) (by rfl))) ⟨rfl, trivial⟩ ⟨rfl, trivial⟩
              (Chain.cons (Cert.free rfl (o_load (ag := false) (sz := 1) 102 .adr (by kernel_rfl) (by kernel_rfl) (by kernel_rfl) (by rfl))) ⟨rfl, trivial⟩ ⟨rfl, trivial⟩
              (Chain.cons (Cert.free rfl (o_geq .t (.ci (by kernel_rfl)))) ⟨rfl, trivial⟩ trivial
              (Chain.cons (Cert.free rfl (o_move .t (by rfl))) ⟨rfl, trivial⟩ trivial
              (Chain.cons (Cert.cond rfl rfl (fun h => o_fieldAddr (off := 7) 102 .is (by kernel_rfl) (by rfl))) ⟨rfl, rfl, trivial⟩ ⟨rfl, trivial⟩
              (Chain.cons (Cert.cond rfl rfl (fun h => o_load (ag := false) (sz := 1) 102 (.w h .adr) (by kernel_rfl) (by kernel_rfl) (by kernel_rfl) (by rfl))) ⟨rfl, rfl, trivial⟩ ⟨rfl, trivial⟩
              (Chain.cons (Cert.cond rfl rfl (fun h => o_move .t (by rfl))) ⟨rfl, rfl, trivial⟩ trivial
              (Chain.cons (Cert.cond rfl rfl (fun h => o_len_sl Try.underlying26 (.w h))) ⟨rfl, rfl, trivial⟩ trivial
              (Chain.cons (Cert.cond rfl rfl (fun h => o_leq (.w h) (.w h))) ⟨rfl, rfl, rfl, trivial⟩ trivial
              (Chain.cons (Cert.free rfl (o_and2 .t .t)) ⟨rfl, rfl, trivial⟩ trivial
              (Chain.cons (Cert.free rfl (o_neqB Try.underlying4 .t .t)) ⟨rfl, rfl, trivial⟩ trivial
              (Chain.cons (Cert.free rfl (o_move .t (by rfl))) ⟨rfl, trivial⟩ trivial
              (Chain.cons (Cert.cond rfl rfl (fun h => o_move .t (by rfl))) ⟨rfl, rfl, trivial⟩ trivial
              (Chain.cons (Cert.cond rfl rfl (fun h => o_move (.w h) (by rfl))) ⟨rfl, rfl, trivial⟩ trivial
              (Chain.cons (Cert.cond2 rfl rfl (fun h => o_load (ag := true) (sz := 6) 106 .is (by kernel_rfl) (by kernel_rfl) (by kernel_rfl) (by rfl))) ⟨rfl, rfl, trivial⟩ ⟨rfl, trivial⟩
              (Chain.cons (Cert.cond2 rfl rfl (fun h => o_move .t (by rfl))) ⟨rfl, rfl, trivial⟩ trivial
              (Chain.cons (Cert.cond2 rfl rfl (fun h => o_fieldAddr (off := 7) 102 .is (by kernel_rfl) (by rfl))) ⟨rfl, rfl, trivial⟩ ⟨rfl, trivial⟩
              (Chain.cons (Cert.cond2 rfl rfl (fun h => o_load (ag := false) (sz := 1) 102 (.w h .adr) (by kernel_rfl) (by kernel_rfl) (by kernel_rfl) (by rfl))) ⟨rfl, rfl, trivial⟩ ⟨rfl, trivial⟩
              (Chain.cons (Cert.cond2 rfl rfl (fun h => o_sub (.w h) (.ci (by kernel_rfl)))) ⟨rfl, rfl, trivial⟩ trivial
              (Chain.cons (Cert.cond2 rfl rfl (fun h => o_indexAddr_sl (sz := 6) (.mk Try.underlying26 (by kernel_rfl)) (by intro x; rfl) (.w h) (.w h) (idx_ok hI2 h.2).1 (idx_ok hI2 h.2).2)) ⟨rfl, rfl, rfl, trivial⟩ trivial
              (Chain.cons (Cert.cond2 rfl rfl (fun h => o_load_ref (ag := true) (sz := 6) (.w h) (by kernel_rfl) (by kernel_rfl) (by kernel_rfl))) ⟨rfl, rfl, trivial⟩ trivial
              (Chain.cons (Cert.cond2 rfl rfl (fun h => o_neqS (ks := [true, true, true, true, true, true]) (by kernel_rfl) (.w h) (.w h) (.int (.int (.int (.int (.int (.int .nil)))))))) ⟨rfl, rfl, rfl, trivial⟩ trivial
              (Chain.cons (Cert.cond rfl rfl (fun h => o_and2 (.w h) (.wc h))) ⟨rfl, rfl, rfl, trivial⟩ trivial
              (Chain.cons (Cert.free rfl (o_or2 .t .t)) ⟨rfl, rfl, trivial⟩ trivial
              (Chain.cons (Cert.free rfl (o_move .t (by rfl))) ⟨rfl, trivial⟩ trivial
              (Chain.cons (Cert.cond rfl rfl (fun h => o_move .t (by rfl))) ⟨rfl, rfl, trivial⟩ trivial
              (Chain.cons (Cert.cond rfl rfl (fun h => o_not (.w h))) ⟨rfl, rfl, trivial⟩ trivial
              (Chain.cons (Cert.cond rfl rfl (fun h => o_move (.w h) (by rfl))) ⟨rfl, rfl, trivial⟩ trivial
              (Chain.cons (Cert.cond2 rfl rfl (fun h => o_load (ag := true) (sz := 6) 106 .is (by kernel_rfl) (by kernel_rfl) (by kernel_rfl) (by rfl))) ⟨rfl, rfl, trivial⟩ ⟨rfl, trivial⟩
              (Chain.cons (Cert.cond2 rfl rfl (fun h => o_build (r := []) (zs := [.int .i64 0, .int .i64 0, .int .i64 0, .int .i64 0, .int .i64 0, .int .i64 0]) (pl := [(0, 1), (1, 1), (2, 1), (3, 1), (4, 1), (5, 1)]) (by kernel_rfl) (by kernel_rfl) .nil (by rfl))) ⟨rfl, trivial⟩ trivial
              (Chain.cons (Cert.cond2 rfl rfl (fun h => o_neqS (ks := [true, true, true, true, true, true]) (by kernel_rfl) (.w h) (.w h) (.int (.int (.int (.int (.int (.int .nil)))))))) ⟨rfl, rfl, rfl, trivial⟩ trivial
              (Chain.cons (Cert.cond rfl rfl (fun h => o_and2 (.w h) (.wc h))) ⟨rfl, rfl, rfl, trivial⟩ trivial
              (Chain.cons (Cert.free rfl (o_or2 .t .t)) ⟨rfl, rfl, trivial⟩ trivial
              (Chain.cons (Cert.free rfl (o_move .t (by rfl))) ⟨rfl, trivial⟩ trivial
              (Chain.cons (Cert.cond rfl rfl (fun h => o_move .t (by rfl))) ⟨rfl, rfl, trivial⟩ trivial
              (Chain.cons (Cert.condR rfl rfl (by rfl) (fun h => o_callG1 101 (len_c b (refRoom room) q2) Try.func11 rfl (by kernel_rfl) (Args.one (.w h)))) ⟨rfl, rfl, trivial⟩ ⟨rfl, trivial⟩
              (Chain.cons (Cert.cond rfl rfl (fun h => o_move .t (by rfl))) ⟨rfl, rfl, trivial⟩ trivial
              (Chain.cons (Cert.cond rfl rfl (fun h => o_len_sl Try.underlying26 (.w h))) ⟨rfl, rfl, trivial⟩ trivial
              (Chain.cons (Cert.cond rfl rfl (fun h => o_neq (.w h) (.w h))) ⟨rfl, rfl, rfl, trivial⟩ trivial
              (Chain.cons (Cert.free rfl (o_or2 .t .t)) ⟨rfl, rfl, trivial⟩ trivial
              (Chain.cons (Cert.free rfl (o_move .t (by rfl))) ⟨rfl, trivial⟩ trivial
              (Chain.cons (Cert.cond rfl rfl (fun h => o_move .t (by rfl))) ⟨rfl, rfl, trivial⟩ trivial
              (Chain.cons (Cert.condR rfl rfl (by rfl) (fun h => o_callG1 101 (room_c b (refRoom room) q2) Try.func12 rfl (by kernel_rfl) (Args.one (.w h)))) ⟨rfl, rfl, trivial⟩ ⟨rfl, trivial⟩
              (Chain.cons (Cert.cond rfl rfl (fun h => o_move .t (by rfl))) ⟨rfl, rfl, trivial⟩ trivial
              (Chain.cons (Cert.cond rfl rfl (fun h => o_callP (refRoom_c room) Try.func13 rfl (by kernel_rfl) (Args.one (.w h)))) ⟨rfl, rfl, trivial⟩ trivial
              (Chain.cons (Cert.cond rfl rfl (fun h => o_move .t (by rfl))) ⟨rfl, rfl, trivial⟩ trivial
              (Chain.cons (Cert.cond rfl rfl (fun h => o_len_sl Try.underlying26 (.w h))) ⟨rfl, rfl, trivial⟩ trivial
              (Chain.cons (Cert.cond rfl rfl (fun h => o_sub (.w h) (.w h))) ⟨rfl, rfl, rfl, trivial⟩ trivial
              (Chain.cons (Cert.cond rfl rfl (fun h => o_neq (.w h) (.w h))) ⟨rfl, rfl, rfl, trivial⟩ trivial
              (Chain.cons (Cert.free rfl (o_or2 .t .t)) ⟨rfl, rfl, trivial⟩ trivial
              Chain.nil)))))))))))))))))))))))))))))))))))))))))))))))))))
              (by kernel_rfl) (by rw [hB]; kernel_rfl) ?_
          clear hS; intro a w F hS
          replace hS := hS.norm [(0, _), (5, _), (6, _), (8, _), (15, _), (16, _), (34, _), (35, _), (36, _), (37, _), (38, _), (39, _), (40, _), (41, _), (42, _), (43, _), (69, _), (70, _), (92, _), (93, _), (94, _), (95, _), (96, _), (97, _), (98, _), (99, _), (100, _), (101, _), (102, _), (103, _), (104, _), (105, _), (106, _), (107, _), (108, _), (109, _), (110, _), (111, _), (112, _), (113, _), (114, _), (115, _), (116, _), (117, _), (118, _), (119, _), (120, _), (121, _), (122, _), (123, _), (124, _), (125, _), (126, _), (127, _), (128, _), (129, _), (130, _), (131, _), (132, _), (133, _), (134, _), (135, _), (136, _), (137, _), (138, _), (139, _), (140, _), (141, _), (142, _), (143, _), (144, _), (145, _), (146, _), (147, _), (148, _), (149, _)] [(0, _), (101, _), (102, _), (106, _)] ⟨rfl, rfl, rfl, rfl, rfl, rfl, rfl, rfl, rfl, rfl, rfl, rfl, rfl, rfl, rfl, rfl, rfl, rfl, rfl, rfl, rfl, rfl, rfl, rfl, rfl, rfl, rfl, rfl, rfl, rfl, rfl, rfl, rfl, rfl, rfl, rfl, rfl, rfl, rfl, rfl, rfl, rfl, rfl, rfl, rfl, rfl, rfl, rfl, rfl, rfl, rfl, rfl, rfl, rfl, rfl, rfl, rfl, rfl, rfl, rfl, rfl, rfl, rfl, rfl, rfl, rfl, rfl, rfl, rfl, rfl, rfl, rfl, rfl, rfl, rfl, rfl, trivial⟩ ⟨rfl, rfl, rfl, rfl, trivial⟩
          obtain ⟨F, hS⟩ := hS
          try dsimp only [RS.sub, SF.sub, CF.sub, csub, Anc.sub, stCells, List.map, List.length_cons, List.length_nil, Nat.reduceAdd, List.drop_succ_cons, List.drop_zero, List.drop_nil, List.take_succ_cons, List.take_zero, List.take_nil, List.cons_append, List.nil_append, zCF, ldSF] at hS
          refine then_n ?_
          refine cond_b hS rfl (fun hc10 => ?_) (fun hc10 => ?_)
          · skip
            have hR := refRoom_in room
            have hle := hI2.le
            rw [wrap_i64 (show -9223372036854775808 ≤ refRoom room - (q2.length : Int) ∧ refRoom room - (q2.length : Int) ≤ 9223372036854775807 by omega)] at hc10
            by_cases hb : 1 ≤ d.n ∧ d.n ≤ q2.length
            · rw [show getP q2 d.n = (nth q2 (d.n - 1).toNat, true) from if_pos hb, wrap_i64 (show -9223372036854775808 ≤ d.n - 1 ∧ d.n - 1 ≤ 9223372036854775807 by omega), and_yes hb] at hc10; simp at hc10
            · rw [show getP q2 d.n = (default, false) from if_neg hb, and_no hb] at hc10; simp [show (default : Cell) = ⟨0, 0, 0, 0, 0, 0⟩ from rfl] at hc10
          · skip
            refine wp_skip ?_
            refine block_n ?_
            refine then_n ?_
            refine region_seq hS (by kernel_rfl)
                (Chain.cons (Cert.free rfl (o_add .t (.ci (by kernel_rfl)))) ⟨rfl, trivial⟩ trivial
                (Chain.cons (Cert.free rfl (o_move .t (by rfl))) ⟨rfl, trivial⟩ trivial
                Chain.nil))
                (by kernel_rfl) (by rw [hB]; kernel_rfl) ?_
            clear hS; intro a w F hS
            replace hS := hS.norm [(0, _), (5, _), (6, _), (8, _), (15, _), (16, _), (34, _), (35, _), (36, _), (37, _), (38, _), (39, _), (40, _), (41, _), (42, _), (43, _), (69, _), (70, _), (92, _), (93, _), (94, _), (95, _), (96, _), (97, _), (98, _), (99, _), (100, _), (101, _), (102, _), (103, _), (104, _), (105, _), (106, _), (107, _), (108, _), (109, _), (110, _), (111, _), (112, _), (113, _), (114, _), (115, _), (116, _), (117, _), (118, _), (119, _), (120, _), (121, _), (122, _), (123, _), (124, _), (125, _), (126, _), (127, _), (128, _), (129, _), (130, _), (131, _), (132, _), (133, _), (134, _), (135, _), (136, _), (137, _), (138, _), (139, _), (140, _), (141, _), (142, _), (143, _), (144, _), (145, _), (146, _), (147, _), (148, _), (149, _), (150, _)] [(0, _), (101, _), (102, _), (106, _)] ⟨rfl, rfl, rfl, rfl, rfl, rfl, rfl, rfl, rfl, rfl, rfl, rfl, rfl, rfl, rfl, rfl, rfl, rfl, rfl, rfl, rfl, rfl, rfl, rfl, rfl, rfl, rfl, rfl, rfl, rfl, rfl, rfl, rfl, rfl, rfl, rfl, rfl, rfl, rfl, rfl, rfl, rfl, rfl, rfl, rfl, rfl, rfl, rfl, rfl, rfl, rfl, rfl, rfl, rfl, rfl, rfl, rfl, rfl, rfl, rfl, rfl, rfl, rfl, rfl, rfl, rfl, rfl, rfl, rfl, rfl, rfl, rfl, rfl, rfl, rfl, rfl, rfl, trivial⟩ ⟨rfl, rfl, rfl, rfl, trivial⟩
            obtain ⟨F, hS⟩ := hS
            try dsimp only [RS.sub, SF.sub, CF.sub, csub, Anc.sub, stCells, List.map, List.length_cons, List.length_nil, Nat.reduceAdd, List.drop_succ_cons, List.drop_zero, List.drop_nil, List.take_succ_cons, List.take_zero, List.take_nil, List.cons_append, List.nil_append, zCF, ldSF] at hS
            refine then_n ?_
            replace hS := hS.ent (i := 36) (s' := .pv (.int .i64 ((i + 1 : Nat) : Int))) rfl (.int (wrap_succ (by omega)))
            replace hS := hS.norm [(0, _), (5, _), (6, _), (34, _), (35, _), (36, _)] [(0, _), (101, _)] ⟨rfl, rfl, rfl, rfl, rfl, rfl, trivial⟩ ⟨rfl, rfl, trivial⟩
            obtain ⟨F, hS⟩ := hS
            exact ⟨(i + 1, q2), F, ⟨by omega, hI2⟩, hS, by dsimp only; omega⟩
    · skip
      refine wp_exit ?_
      refine then_x ?_
      refine then_x ?_
      refine block_x ?_
      refine then_n ?_
      refine wp_seq ?_
      refine wp_seq ?_
      refine region_seq hS (by kernel_rfl)
          (Chain.cons (Cert.free rfl (o_move .t (by rfl))) ⟨rfl, trivial⟩ trivial
          (Chain.cons (Cert.free rfl (o_len_sl Try.underlying26 .t)) ⟨rfl, trivial⟩ trivial
          (Chain.cons (Cert.free rfl (o_move (.ci (by kernel_rfl)) (by rfl))) trivial trivial
          Chain.nil)))
          (by kernel_rfl) (by rw [hB]; kernel_rfl) ?_
      clear hS; intro a w F hS
      replace hS := hS.norm [(5, _), (6, _), (152, _), (153, _)] [(0, _), (101, _)] ⟨rfl, rfl, rfl, rfl, trivial⟩ ⟨rfl, rfl, trivial⟩
      obtain ⟨F, hS⟩ := hS
      try dsimp only [RS.sub, SF.sub, CF.sub, csub, Anc.sub, stCells, List.map, List.length_cons, List.length_nil, Nat.reduceAdd, List.drop_succ_cons, List.drop_zero, List.drop_nil, List.take_succ_cons, List.take_zero, List.take_nil, List.cons_append, List.nil_append, zCF, ldSF] at hS
      refine then_n ?_
      refine wp_block ?_
      replace hS := hS.norm [(5, _), (6, _), (152, _), (153, _)] [(0, _), (101, _)] ⟨rfl, rfl, rfl, rfl, trivial⟩ ⟨rfl, rfl, trivial⟩
      obtain ⟨F, hS⟩ := hS
      refine loop_inv (σ := Nat) (fun s => (⟨[(5, .pv (.is (.pointer (some ⟨b, 0, none⟩)))), (6, .pv (.sl rCell q)), (152, .pv (.int .i64 q.length)), (153, .pv (.int .i64 s))], [(0, frame B), (101, RS.hp (arenaH (.pointer (some ⟨b, 0, none⟩)) (refRoom room) q))]⟩ : En)) (fun s => s ≤ q.length) (fun s => q.length - s) 0 hS (Nat.zero_le _) ?_
      clear hS; intro j a w F hC hS
      try dsimp only at hC
      try dsimp only at hS
      have hj := hC
      refine wp_seq ?_
      refine region_seq hS (by kernel_rfl)
          (Chain.cons (Cert.free rfl (o_lss .t .t)) ⟨rfl, rfl, trivial⟩ trivial
          Chain.nil)
          (by kernel_rfl) (by rw [hB]; kernel_rfl) ?_
      clear hS; intro a w F hS
      replace hS := hS.norm [(5, _), (6, _), (152, _), (153, _), (154, _)] [(0, _), (101, _)] ⟨rfl, rfl, rfl, rfl, rfl, trivial⟩ ⟨rfl, rfl, trivial⟩
      obtain ⟨F, hS⟩ := hS
      try dsimp only [RS.sub, SF.sub, CF.sub, csub, Anc.sub, stCells, List.map, List.length_cons, List.length_nil, Nat.reduceAdd, List.drop_succ_cons, List.drop_zero, List.drop_nil, List.take_succ_cons, List.take_zero, List.take_nil, List.cons_append, List.nil_append, zCF, ldSF] at hS
      refine then_n ?_
      refine wp_seq ?_
      refine cond_b hS rfl (fun hc11 => ?_) (fun hc11 => ?_)
      · skip
        have hjq : j < q.length := by simp at hc11; omega
        refine wp_skip ?_
        refine then_n ?_
        refine wp_seq ?_
        refine wp_block ?_
        refine wp_seq ?_
        refine region_seq hS (by kernel_rfl)
            (Chain.cons (Cert.free rfl (o_move .t (by rfl))) ⟨rfl, trivial⟩ trivial
            (Chain.cons (Cert.free rfl (o_assign .t (by rfl))) ⟨rfl, trivial⟩ trivial
            Chain.nil))
            (by kernel_rfl) (by rw [hB]; kernel_rfl) ?_
        clear hS; intro a w F hS
        replace hS := hS.norm [(5, _), (6, _), (17, _), (152, _), (153, _), (154, _), (155, _)] [(0, _), (101, _)] ⟨rfl, rfl, rfl, rfl, rfl, rfl, rfl, trivial⟩ ⟨rfl, rfl, trivial⟩
        obtain ⟨F, hS⟩ := hS
        try dsimp only [RS.sub, SF.sub, CF.sub, csub, Anc.sub, stCells, List.map, List.length_cons, List.length_nil, Nat.reduceAdd, List.drop_succ_cons, List.drop_zero, List.drop_nil, List.take_succ_cons, List.take_zero, List.take_nil, List.cons_append, List.nil_append, zCF, ldSF] at hS
        refine then_n ?_
        refine wp_seq ?_
        refine region_seq hS (by kernel_rfl)
            (Chain.cons (Cert.free rfl (o_move .t (by rfl))) ⟨rfl, trivial⟩ trivial
            (Chain.cons (Cert.free rfl (o_move .t (by rfl))) ⟨rfl, trivial⟩ trivial
            (Chain.cons (Cert.free rfl (o_add .t (.ci (by kernel_rfl)))) ⟨rfl, trivial⟩ trivial
            (Chain.cons (Cert.free rfl (o_callG1 101 (get_c b (refRoom room) q (IntKind.wrap .i64 ((j : Int) + 1))) Try.func10 rfl (by kernel_rfl) (Args.two .t .t))) ⟨rfl, rfl, trivial⟩ ⟨rfl, trivial⟩
            (Chain.cons (Cert.free rfl (o_move .t (by rfl))) ⟨rfl, trivial⟩ trivial
            (Chain.cons (Cert.free rfl (o_extract .t rfl)) ⟨rfl, trivial⟩ trivial
            (Chain.cons (Cert.free rfl (o_extract .t rfl)) ⟨rfl, trivial⟩ trivial
            (Chain.cons (Cert.free rfl (o_alloc (zs := [.int .i64 0, .int .i64 0, .int .i64 0, .int .i64 0, .int .i64 0, .int .i64 0]) 107 (by kernel_rfl))) trivial trivial
            (Chain.cons (Cert.free rfl (o_storeA (sz := 6) 107 .same (.conv .t .agg) (by kernel_rfl) (by kernel_rfl) (by kernel_rfl))) ⟨rfl, rfl, trivial⟩ ⟨rfl, trivial⟩
            (Chain.cons (Cert.free rfl (o_assign .t (by rfl))) ⟨rfl, trivial⟩ trivial
            Chain.nil))))))))))
            (by kernel_rfl) (by rw [hB]; kernel_rfl) ?_
        clear hS; intro a w F hS
        replace hS := hS.sub
        replace hS := hS.norm [(5, _), (6, _), (17, _), (18, _), (19, _), (152, _), (153, _), (154, _), (155, _), (156, _), (157, _), (158, _), (159, _), (160, _), (161, _), (162, _)] [(0, _), (101, _), (107, _)] ⟨rfl, rfl, rfl, rfl, rfl, rfl, rfl, rfl, rfl, rfl, rfl, rfl, rfl, rfl, rfl, rfl, trivial⟩ ⟨rfl, rfl, rfl, trivial⟩
        obtain ⟨F, hS⟩ := hS
        try dsimp only [RS.sub, SF.sub, CF.sub, csub, Anc.sub, stCells, List.map, List.length_cons, List.length_nil, Nat.reduceAdd, List.drop_succ_cons, List.drop_zero, List.drop_nil, List.take_succ_cons, List.take_zero, List.take_nil, List.cons_append, List.nil_append, zCF, ldSF] at hS
        generalize Act.tau a 18 = v18 at hS
        refine then_n ?_
        refine wp_seq ?_
        refine region_any (by kernel_rfl) hS (by kernel_rfl)
            (Chain.cons (Cert.free rfl (o_move .t (by rfl))) ⟨rfl, trivial⟩ trivial
            (Chain.cons (Cert.free rfl (o_not .t)) ⟨rfl, trivial⟩ trivial
            (Chain.cons (Cert.free rfl (o_move .t (by rfl))) ⟨rfl, trivial⟩ trivial
            (Chain.cons (Cert.cond rfl rfl (fun h => o_load (ag := true) (sz := 6) 107 .is (by kernel_rfl) (by kernel_rfl) (by kernel_rfl) (by rfl))) ⟨rfl, rfl, trivial⟩ ⟨rfl, trivial⟩
            (Chain.cons (Cert.cond rfl rfl (fun h => o_move .t (by rfl))) ⟨rfl, rfl, trivial⟩ trivial
            (Chain.cons (Cert.cond rfl rfl (fun h => o_move .t (by rfl))) ⟨rfl, rfl, trivial⟩ trivial
            (Chain.cons (Cert.cond rfl rfl (fun h => o_indexAddr_sl (sz := 6) (.mk Try.underlying26 (by kernel_rfl)) (by intro x; rfl) (.w h) (.w h) (by omega) (by omega))) ⟨rfl, rfl, rfl, trivial⟩ trivial
            (Chain.cons (Cert.cond rfl rfl (fun h => o_load_ref (ag := true) (sz := 6) (.w h) (by kernel_rfl) (by kernel_rfl) (by kernel_rfl))) ⟨rfl, rfl, trivial⟩ trivial
            (Chain.cons (Cert.cond rfl rfl (fun h => o_neqS (ks := [true, true, true, true, true, true]) (by kernel_rfl) (.w h) (.w h) (.int (.int (.int (.int (.int (.int .nil)))))))) ⟨rfl, rfl, rfl, trivial⟩ trivial
            (Chain.cons (Cert.free rfl (o_or2 .t .t)) ⟨rfl, rfl, trivial⟩ trivial
            Chain.nil))))))))))
            (by kernel_rfl) (by rw [hB]; kernel_rfl) ?_
        clear hS; intro a w F hS
        replace hS := hS.norm [(5, _), (6, _), (17, _), (18, _), (19, _), (152, _), (153, _), (154, _), (155, _), (156, _), (157, _), (158, _), (159, _), (160, _), (161, _), (162, _), (163, _), (164, _), (165, _), (166, _), (167, _), (168, _), (169, _), (170, _), (171, _), (172, _)] [(0, _), (101, _), (107, _)] ⟨rfl, rfl, rfl, rfl, rfl, rfl, rfl, rfl, rfl, rfl, rfl, rfl, rfl, rfl, rfl, rfl, rfl, rfl, rfl, rfl, rfl, rfl, rfl, rfl, rfl, rfl, trivial⟩ ⟨rfl, rfl, rfl, trivial⟩
        obtain ⟨F, hS⟩ := hS
        try dsimp only [RS.sub, SF.sub, CF.sub, csub, Anc.sub, stCells, List.map, List.length_cons, List.length_nil, Nat.reduceAdd, List.drop_succ_cons, List.drop_zero, List.drop_nil, List.take_succ_cons, List.take_zero, List.take_nil, List.cons_append, List.nil_append, zCF, ldSF] at hS
        refine then_n ?_
        refine cond_b hS rfl (fun hc12 => ?_) (fun hc12 => ?_)
        · skip
          have hb : 1 ≤ (j : Int) + 1 ∧ (j : Int) + 1 ≤ q.length := by omega
          rw [wrap_i64 (show -9223372036854775808 ≤ (j : Int) + 1 ∧ (j : Int) + 1 ≤ 9223372036854775807 by omega), show getP q ((j : Int) + 1) = (nth q ((j : Int) + 1 - 1).toNat, true) from if_pos hb, show ((j : Int) + 1 - 1).toNat = j by omega] at hc12
          simp at hc12
        · skip
          refine wp_skip ?_
          refine block_n ?_
          refine then_n ?_
          refine region_seq hS (by kernel_rfl)
              (Chain.cons (Cert.free rfl (o_add .t (.ci (by kernel_rfl)))) ⟨rfl, trivial⟩ trivial
              (Chain.cons (Cert.free rfl (o_move .t (by rfl))) ⟨rfl, trivial⟩ trivial
              Chain.nil))
              (by kernel_rfl) (by rw [hB]; kernel_rfl) ?_
          clear hS; intro a w F hS
          replace hS := hS.norm [(5, _), (6, _), (17, _), (18, _), (19, _), (152, _), (153, _), (154, _), (155, _), (156, _), (157, _), (158, _), (159, _), (160, _), (161, _), (162, _), (163, _), (164, _), (165, _), (166, _), (167, _), (168, _), (169, _), (170, _), (171, _), (172, _), (173, _)] [(0, _), (101, _), (107, _)] ⟨rfl, rfl, rfl, rfl, rfl, rfl, rfl, rfl, rfl, rfl, rfl, rfl, rfl, rfl, rfl, rfl, rfl, rfl, rfl, rfl, rfl, rfl, rfl, rfl, rfl, rfl, rfl, trivial⟩ ⟨rfl, rfl, rfl, trivial⟩
          obtain ⟨F, hS⟩ := hS
          try dsimp only [RS.sub, SF.sub, CF.sub, csub, Anc.sub, stCells, List.map, List.length_cons, List.length_nil, Nat.reduceAdd, List.drop_succ_cons, List.drop_zero, List.drop_nil, List.take_succ_cons, List.take_zero, List.take_nil, List.cons_append, List.nil_append, zCF, ldSF] at hS
          refine then_n ?_
          replace hS := hS.ent (i := 153) (s' := .pv (.int .i64 ((j + 1 : Nat) : Int))) rfl (.int (wrap_succ (by omega)))
          replace hS := hS.norm [(5, _), (6, _), (152, _), (153, _)] [(0, _), (101, _)] ⟨rfl, rfl, rfl, rfl, trivial⟩ ⟨rfl, rfl, trivial⟩
          obtain ⟨F, hS⟩ := hS
          exact ⟨j + 1, F, by omega, hS, by omega⟩
      · skip
        refine wp_exit ?_
        refine then_x ?_
        refine then_x ?_
        refine block_x ?_
        refine then_n ?_
        refine wp_seq ?_
        refine region_seq hS (by kernel_rfl)
            (Chain.cons (Cert.free rfl (o_callP (lives_c) Try.func6 rfl (by kernel_rfl) Args.nil)) trivial trivial
            (Chain.cons (Cert.free rfl (o_assign .t (by rfl))) ⟨rfl, trivial⟩ trivial
            Chain.nil))
            (by kernel_rfl) (by rw [hB]; kernel_rfl) ?_
        clear hS; intro a w F hS
        replace hS := hS.norm [(4, _)] [(0, _), (101, _)] ⟨rfl, trivial⟩ ⟨rfl, rfl, trivial⟩
        obtain ⟨F, hS⟩ := hS
        try dsimp only [RS.sub, SF.sub, CF.sub, csub, Anc.sub, stCells, List.map, List.length_cons, List.length_nil, Nat.reduceAdd, List.drop_succ_cons, List.drop_zero, List.drop_nil, List.take_succ_cons, List.take_zero, List.take_nil, List.cons_append, List.nil_append, zCF, ldSF] at hS
        refine then_n ?_
        refine wp_ret ?_
        refine ret_P hfr hS rfl (.tmp rfl .nil) (.one (.bool (by first | rfl | simp)))

end Go.Proofs.Ytingoafbkbccnaa
