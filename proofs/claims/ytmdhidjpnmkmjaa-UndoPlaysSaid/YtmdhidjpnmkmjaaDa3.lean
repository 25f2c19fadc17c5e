/- Histories and deltas held against each other. No condition beyond those that each theorem says. -/
import Derived.Test.YtmdhidjpnmkmjaaDa2
namespace Go.Proofs.Ytmdhidjpnmkmjaa
open Go Go.Gm
set_option linter.unusedVariables false
set_option linter.unusedSimpArgs false
set_option maxHeartbeats 4000000
set_option maxRecDepth 8000

theorem PVs.lenAt {α : Type} {R : α → List PV} {l : List α} {v : Value} {w : World} {y : Ys} (h : (PV.sl R l).p v w y) : l.length ≤ 9223372036854775807 := by
  obtain ⟨_, cap, _, h1, h2, _⟩ := h
  unfold maxLen at h2
  omega
theorem Sat.lenHist {B : Base} {E : En} {a : Act} {w : World} {F : Fp} (h : Sat B E a w F) {i : Nat} {u : HistD} (hl : Go.Gm.look E.s i = some (SF.pv (PV.agg (rHist u)))) : u.txs.length ≤ 9223372036854775807 ∧ u.orders.length ≤ 9223372036854775807 := by
  obtain ⟨vs, _, hp⟩ := h.s i _ hl
  match vs, hp with
  | [x, y], hp => exact ⟨PVs.lenAt hp.1.2, PVs.lenAt hp.2.1.2⟩

theorem sameHist_c (u v : HistD) : FnP Try.prog 48 [.agg (rHist u), .agg (rHist v)] (.bool (decide (u = v))) := by
  refine FnP.mk Try.func48 rfl Try.ntmps48 rfl ?_
  intro B a w F hB hfr hS
  obtain ⟨hxl, hyl⟩ := Sat.lenHist hS (i := 0) rfl
  refine wp_seq ?_
  refine region_seq hS (by kernel_rfl)
      (Chain.cons (Cert.free rfl (o_boxA 101 (.conv .t .agg) (by kernel_rfl))) ⟨rfl, trivial⟩ trivial
      (Chain.cons (Cert.free rfl (o_boxA 102 (.conv .t .agg) (by kernel_rfl))) ⟨rfl, trivial⟩ trivial
      (Chain.cons (Cert.free rfl (o_assign .cb (by rfl))) trivial trivial
      Chain.nil)))
      (by kernel_rfl) (by rw [hB]; kernel_rfl) ?_
  clear hS; intro a w F hS
  replace hS := hS.sub
  replace hS := hS.norm [(2, _), (3, _), (4, _)] [(0, _), (101, _), (102, _)] ⟨rfl, rfl, rfl, trivial⟩ ⟨rfl, rfl, rfl, trivial⟩
  obtain ⟨F, hS⟩ := hS
  try dsimp only [RS.sub, SF.sub, CF.sub, csub, Anc.sub, stCells, List.map, List.length_cons, List.length_nil, Nat.reduceAdd, List.drop_succ_cons, List.drop_zero, List.drop_nil, List.take_succ_cons, List.take_zero, List.take_nil, List.cons_append, List.nil_append, zCF, ldSF] at hS
  generalize Act.tau a 2 = v2 at hS
  generalize Act.tau a 3 = v3 at hS
  refine then_n ?_
  refine wp_seq ?_
  refine wp_seq ?_
  refine region_seq hS (by kernel_rfl)
      (Chain.cons (Cert.free rfl (o_fieldAddr (off := 0) 101 .is (by kernel_rfl) (by rfl))) ⟨rfl, trivial⟩ ⟨rfl, trivial⟩
      (Chain.cons (Cert.free rfl (o_load (ag := false) (sz := 1) 101 .adr (by kernel_rfl) (by kernel_rfl) (by kernel_rfl) (by rfl))) ⟨rfl, trivial⟩ ⟨rfl, trivial⟩
      (Chain.cons (Cert.free rfl (o_len_sl Try.underlying50 .t)) ⟨rfl, trivial⟩ trivial
      (Chain.cons (Cert.free rfl (o_fieldAddr (off := 0) 102 .is (by kernel_rfl) (by rfl))) ⟨rfl, trivial⟩ ⟨rfl, trivial⟩
      (Chain.cons (Cert.free rfl (o_load (ag := false) (sz := 1) 102 .adr (by kernel_rfl) (by kernel_rfl) (by kernel_rfl) (by rfl))) ⟨rfl, trivial⟩ ⟨rfl, trivial⟩
      (Chain.cons (Cert.free rfl (o_len_sl Try.underlying50 .t)) ⟨rfl, trivial⟩ trivial
      (Chain.cons (Cert.free rfl (o_neq .t .t)) ⟨rfl, rfl, trivial⟩ trivial
      (Chain.cons (Cert.free rfl (o_move .t (by rfl))) ⟨rfl, trivial⟩ trivial
      (Chain.cons (Cert.cond rfl rfl (fun h => o_fieldAddr (off := 1) 101 .is (by kernel_rfl) (by rfl))) ⟨rfl, rfl, trivial⟩ ⟨rfl, trivial⟩
      (Chain.cons (Cert.cond rfl rfl (fun h => o_load (ag := false) (sz := 1) 101 (.w h .adr) (by kernel_rfl) (by kernel_rfl) (by kernel_rfl) (by rfl))) ⟨rfl, rfl, trivial⟩ ⟨rfl, trivial⟩
      (Chain.cons (Cert.cond rfl rfl (fun h => o_len_sl Try.underlying51 (.w h))) ⟨rfl, rfl, trivial⟩ trivial
      (Chain.cons (Cert.cond rfl rfl (fun h => o_fieldAddr (off := 1) 102 .is (by kernel_rfl) (by rfl))) ⟨rfl, rfl, trivial⟩ ⟨rfl, trivial⟩
      (Chain.cons (Cert.cond rfl rfl (fun h => o_load (ag := false) (sz := 1) 102 (.w h .adr) (by kernel_rfl) (by kernel_rfl) (by kernel_rfl) (by rfl))) ⟨rfl, rfl, trivial⟩ ⟨rfl, trivial⟩
      (Chain.cons (Cert.cond rfl rfl (fun h => o_len_sl Try.underlying51 (.w h))) ⟨rfl, rfl, trivial⟩ trivial
      (Chain.cons (Cert.cond rfl rfl (fun h => o_neq (.w h) (.w h))) ⟨rfl, rfl, rfl, trivial⟩ trivial
      (Chain.cons (Cert.free rfl (o_or2 .t .t)) ⟨rfl, rfl, trivial⟩ trivial
      Chain.nil))))))))))))))))
      (by kernel_rfl) (by rw [hB]; kernel_rfl) ?_
  clear hS; intro a w F hS
  replace hS := hS.norm [(2, _), (3, _), (4, _), (22, _)] [(0, _), (101, _), (102, _)] ⟨rfl, rfl, rfl, rfl, trivial⟩ ⟨rfl, rfl, rfl, trivial⟩
  obtain ⟨F, hS⟩ := hS
  try dsimp only [RS.sub, SF.sub, CF.sub, csub, Anc.sub, stCells, List.map, List.length_cons, List.length_nil, Nat.reduceAdd, List.drop_succ_cons, List.drop_zero, List.drop_nil, List.take_succ_cons, List.take_zero, List.take_nil, List.cons_append, List.nil_append, zCF, ldSF] at hS
  skip
  refine then_n ?_
  refine cond_b hS rfl (fun hc0 => ?_) (fun hc0 => ?_)
  · skip
    have hg : false = decide (u = v) := by
      rw [eq_comm, decide_eq_false_iff_not]
      intro h
      subst h
      simp at hc0
    refine wp_seq ?_
    refine region_seq hS (by kernel_rfl)
        (Chain.cons (Cert.free rfl (o_assign .cb (by rfl))) trivial trivial
        Chain.nil)
        (by kernel_rfl) (by rw [hB]; kernel_rfl) ?_
    clear hS; intro a w F hS
    replace hS := hS.norm [(2, _), (3, _), (4, _)] [(0, _), (101, _), (102, _)] ⟨rfl, rfl, rfl, trivial⟩ ⟨rfl, rfl, rfl, trivial⟩
    obtain ⟨F, hS⟩ := hS
    try dsimp only [RS.sub, SF.sub, CF.sub, csub, Anc.sub, stCells, List.map, List.length_cons, List.length_nil, Nat.reduceAdd, List.drop_succ_cons, List.drop_zero, List.drop_nil, List.take_succ_cons, List.take_zero, List.take_nil, List.cons_append, List.nil_append, zCF, ldSF] at hS
    refine then_n ?_
    refine wp_ret ?_
    refine then_r ?_
    refine ret_P hfr hS rfl (.tmp rfl .nil) (.one (.bool hg))
  · skip
    have hTl : u.txs.length = v.txs.length := by simp at hc0; omega
    have hOl : u.orders.length = v.orders.length := by simp at hc0; omega
    refine wp_skip ?_
    refine then_n ?_
    refine wp_seq ?_
    refine wp_seq ?_
    refine region_seq hS (by kernel_rfl)
        (Chain.cons (Cert.free rfl (o_fieldAddr (off := 0) 101 .is (by kernel_rfl) (by rfl))) ⟨rfl, trivial⟩ ⟨rfl, trivial⟩
        (Chain.cons (Cert.free rfl (o_load (ag := false) (sz := 1) 101 .adr (by kernel_rfl) (by kernel_rfl) (by kernel_rfl) (by rfl))) ⟨rfl, trivial⟩ ⟨rfl, trivial⟩
        (Chain.cons (Cert.free rfl (o_len_sl Try.underlying50 .t)) ⟨rfl, trivial⟩ trivial
        (Chain.cons (Cert.free rfl (o_move (.ci (by kernel_rfl)) (by rfl))) trivial trivial
        Chain.nil))))
        (by kernel_rfl) (by rw [hB]; kernel_rfl) ?_
    clear hS; intro a w F hS
    replace hS := hS.norm [(2, _), (3, _), (4, _), (25, _), (26, _)] [(0, _), (101, _), (102, _)] ⟨rfl, rfl, rfl, rfl, rfl, trivial⟩ ⟨rfl, rfl, rfl, trivial⟩
    obtain ⟨F, hS⟩ := hS
    try dsimp only [RS.sub, SF.sub, CF.sub, csub, Anc.sub, stCells, List.map, List.length_cons, List.length_nil, Nat.reduceAdd, List.drop_succ_cons, List.drop_zero, List.drop_nil, List.take_succ_cons, List.take_zero, List.take_nil, List.cons_append, List.nil_append, zCF, ldSF] at hS
    refine then_n ?_
    refine wp_block ?_
    replace hS := hS.norm [(2, _), (3, _), (25, _), (26, _)] [(0, _), (101, _), (102, _)] ⟨rfl, rfl, rfl, rfl, trivial⟩ ⟨rfl, rfl, rfl, trivial⟩
    obtain ⟨F, hS⟩ := hS
    refine loop_inv (σ := Nat) (fun s => (⟨[(2, .pv (.is v2)), (3, .pv (.is v3)), (25, .pv (.int .i64 u.txs.length)), (26, .pv (.int .i64 s))], [(0, frame B), (101, .pt (.val v2) 91 [.pv (.sl rTx u.txs), .pv (.sl rOrd u.orders)]), (102, .pt (.val v3) 91 [.pv (.sl rTx v.txs), .pv (.sl rOrd v.orders)])]⟩ : En)) (fun s => s ≤ u.txs.length ∧ ∀ j, j < s → Go.Gm.nth u.txs j = Go.Gm.nth v.txs j) (fun s => u.txs.length - s) 0 hS ⟨Nat.zero_le _, fun j hj => absurd hj (Nat.not_lt_zero j)⟩ ?_
    clear hS; intro i a w F hC hS
    try dsimp only at hC
    try dsimp only at hS
    obtain ⟨hi, hq⟩ := hC
    refine wp_seq ?_
    refine region_seq hS (by kernel_rfl)
        (Chain.cons (Cert.free rfl (o_lss .t .t)) ⟨rfl, rfl, trivial⟩ trivial
        Chain.nil)
        (by kernel_rfl) (by rw [hB]; kernel_rfl) ?_
    clear hS; intro a w F hS
    replace hS := hS.norm [(2, _), (3, _), (25, _), (26, _), (27, _)] [(0, _), (101, _), (102, _)] ⟨rfl, rfl, rfl, rfl, rfl, trivial⟩ ⟨rfl, rfl, rfl, trivial⟩
    obtain ⟨F, hS⟩ := hS
    try dsimp only [RS.sub, SF.sub, CF.sub, csub, Anc.sub, stCells, List.map, List.length_cons, List.length_nil, Nat.reduceAdd, List.drop_succ_cons, List.drop_zero, List.drop_nil, List.take_succ_cons, List.take_zero, List.take_nil, List.cons_append, List.nil_append, zCF, ldSF] at hS
    refine then_n ?_
    refine wp_seq ?_
    refine cond_b hS rfl (fun hc1 => ?_) (fun hc1 => ?_)
    · skip
      have hil : i < u.txs.length := by simp at hc1; omega
      refine wp_skip ?_
      refine then_n ?_
      refine wp_seq ?_
      refine wp_block ?_
      refine wp_seq ?_
      refine region_seq hS (by kernel_rfl)
          (Chain.cons (Cert.free rfl (o_move .t (by rfl))) ⟨rfl, trivial⟩ trivial
          (Chain.cons (Cert.free rfl (o_assign .t (by rfl))) ⟨rfl, trivial⟩ trivial
          Chain.nil))
          (by kernel_rfl) (by rw [hB]; kernel_rfl) ?_
      clear hS; intro a w F hS
      replace hS := hS.norm [(2, _), (3, _), (5, _), (25, _), (26, _), (27, _), (28, _)] [(0, _), (101, _), (102, _)] ⟨rfl, rfl, rfl, rfl, rfl, rfl, rfl, trivial⟩ ⟨rfl, rfl, rfl, trivial⟩
      obtain ⟨F, hS⟩ := hS
      try dsimp only [RS.sub, SF.sub, CF.sub, csub, Anc.sub, stCells, List.map, List.length_cons, List.length_nil, Nat.reduceAdd, List.drop_succ_cons, List.drop_zero, List.drop_nil, List.take_succ_cons, List.take_zero, List.take_nil, List.cons_append, List.nil_append, zCF, ldSF] at hS
      refine then_n ?_
      refine wp_seq ?_
      refine region_any (by kernel_rfl) hS (by kernel_rfl)
          (Chain.cons (Cert.free rfl (o_fieldAddr (off := 0) 101 .is (by kernel_rfl) (by rfl))) ⟨rfl, trivial⟩ ⟨rfl, trivial⟩
          (Chain.cons (Cert.free rfl (o_load (ag := false) (sz := 1) 101 .adr (by kernel_rfl) (by kernel_rfl) (by kernel_rfl) (by rfl))) ⟨rfl, trivial⟩ ⟨rfl, trivial⟩
          (Chain.cons (Cert.free rfl (o_move .t (by rfl))) ⟨rfl, trivial⟩ trivial
          (Chain.cons (Cert.free rfl (o_indexAddr_sl (sz := 3) (.mk Try.underlying50 (by kernel_rfl)) (by intro x; rfl) .t .t (by omega) (by omega))) ⟨rfl, rfl, trivial⟩ trivial
          (Chain.cons (Cert.free rfl (o_load_ref (ag := true) (sz := 3) .t (by kernel_rfl) (by kernel_rfl) (by kernel_rfl))) ⟨rfl, trivial⟩ trivial
          (Chain.cons (Cert.free rfl (o_fieldAddr (off := 0) 102 .is (by kernel_rfl) (by rfl))) ⟨rfl, trivial⟩ ⟨rfl, trivial⟩
          (Chain.cons (Cert.free rfl (o_load (ag := false) (sz := 1) 102 .adr (by kernel_rfl) (by kernel_rfl) (by kernel_rfl) (by rfl))) ⟨rfl, trivial⟩ ⟨rfl, trivial⟩
          (Chain.cons (Cert.free rfl (o_move .t (by rfl))) ⟨rfl, trivial⟩ trivial
          (Chain.cons (Cert.free rfl (o_indexAddr_sl (sz := 3) (.mk Try.underlying50 (by kernel_rfl)) (by intro x; rfl) .t .t (by omega) (by omega))) ⟨rfl, rfl, trivial⟩ trivial
          (Chain.cons (Cert.free rfl (o_load_ref (ag := true) (sz := 3) .t (by kernel_rfl) (by kernel_rfl) (by kernel_rfl))) ⟨rfl, trivial⟩ trivial
          (Chain.cons (Cert.free rfl (o_callP (sameTx_c (Go.Gm.nth u.txs (i : Int).toNat) (Go.Gm.nth v.txs (i : Int).toNat)) Try.func57 rfl (by kernel_rfl) (Args.two (.pagg .t) (.pagg .t)))) ⟨rfl, rfl, trivial⟩ trivial
          (Chain.cons (Cert.free rfl (o_not .t)) ⟨rfl, trivial⟩ trivial
          Chain.nil))))))))))))
          (by kernel_rfl) (by rw [hB]; kernel_rfl) ?_
      clear hS; intro a w F hS
      replace hS := hS.norm [(2, _), (3, _), (5, _), (25, _), (26, _), (27, _), (28, _), (29, _), (30, _), (31, _), (32, _), (33, _), (34, _), (35, _), (36, _), (37, _), (38, _), (39, _), (40, _)] [(0, _), (101, _), (102, _)] ⟨rfl, rfl, rfl, rfl, rfl, rfl, rfl, rfl, rfl, rfl, rfl, rfl, rfl, rfl, rfl, rfl, rfl, rfl, rfl, trivial⟩ ⟨rfl, rfl, rfl, trivial⟩
      obtain ⟨F, hS⟩ := hS
      try dsimp only [RS.sub, SF.sub, CF.sub, csub, Anc.sub, stCells, List.map, List.length_cons, List.length_nil, Nat.reduceAdd, List.drop_succ_cons, List.drop_zero, List.drop_nil, List.take_succ_cons, List.take_zero, List.take_nil, List.cons_append, List.nil_append, zCF, ldSF] at hS
      refine then_n ?_
      refine cond_b hS rfl (fun hc2 => ?_) (fun hc2 => ?_)
      · skip
        have hg : false = decide (u = v) := by
          rw [eq_comm, decide_eq_false_iff_not]
          intro h
          subst h
          simp at hc2
        refine wp_seq ?_
        refine region_seq hS (by kernel_rfl)
            (Chain.cons (Cert.free rfl (o_assign .cb (by rfl))) trivial trivial
            Chain.nil)
            (by kernel_rfl) (by rw [hB]; kernel_rfl) ?_
        clear hS; intro a w F hS
        replace hS := hS.norm [(2, _), (3, _), (4, _), (5, _), (25, _), (26, _), (27, _), (28, _), (29, _), (30, _), (31, _), (32, _), (33, _), (34, _), (35, _), (36, _), (37, _), (38, _), (39, _), (40, _)] [(0, _), (101, _), (102, _)] ⟨rfl, rfl, rfl, rfl, rfl, rfl, rfl, rfl, rfl, rfl, rfl, rfl, rfl, rfl, rfl, rfl, rfl, rfl, rfl, rfl, trivial⟩ ⟨rfl, rfl, rfl, trivial⟩
        obtain ⟨F, hS⟩ := hS
        try dsimp only [RS.sub, SF.sub, CF.sub, csub, Anc.sub, stCells, List.map, List.length_cons, List.length_nil, Nat.reduceAdd, List.drop_succ_cons, List.drop_zero, List.drop_nil, List.take_succ_cons, List.take_zero, List.take_nil, List.cons_append, List.nil_append, zCF, ldSF] at hS
        refine then_n ?_
        refine wp_ret ?_
        refine block_r ?_
        refine then_r ?_
        refine then_r ?_
        refine block_r ?_
        refine then_r ?_
        refine ret_P hfr hS rfl (.tmp rfl .nil) (.one (.bool hg))
      · skip
        rw [Int.toNat_natCast] at hc2
        have hqi : Go.Gm.nth u.txs i = Go.Gm.nth v.txs i := by simpa using hc2
        refine wp_skip ?_
        refine block_n ?_
        refine then_n ?_
        refine region_seq hS (by kernel_rfl)
            (Chain.cons (Cert.free rfl (o_add .t (.ci (by kernel_rfl)))) ⟨rfl, trivial⟩ trivial
            (Chain.cons (Cert.free rfl (o_move .t (by rfl))) ⟨rfl, trivial⟩ trivial
            Chain.nil))
            (by kernel_rfl) (by rw [hB]; kernel_rfl) ?_
        clear hS; intro a w F hS
        replace hS := hS.norm [(2, _), (3, _), (5, _), (25, _), (26, _), (27, _), (28, _), (29, _), (30, _), (31, _), (32, _), (33, _), (34, _), (35, _), (36, _), (37, _), (38, _), (39, _), (40, _), (41, _)] [(0, _), (101, _), (102, _)] ⟨rfl, rfl, rfl, rfl, rfl, rfl, rfl, rfl, rfl, rfl, rfl, rfl, rfl, rfl, rfl, rfl, rfl, rfl, rfl, rfl, trivial⟩ ⟨rfl, rfl, rfl, trivial⟩
        obtain ⟨F, hS⟩ := hS
        try dsimp only [RS.sub, SF.sub, CF.sub, csub, Anc.sub, stCells, List.map, List.length_cons, List.length_nil, Nat.reduceAdd, List.drop_succ_cons, List.drop_zero, List.drop_nil, List.take_succ_cons, List.take_zero, List.take_nil, List.cons_append, List.nil_append, zCF, ldSF] at hS
        refine then_n ?_
        replace hS := hS.ent (i := 26) (s' := .pv (.int .i64 ((i + 1 : Nat) : Int))) rfl (.int (wrap_succ (by omega)))
        replace hS := hS.norm [(2, _), (3, _), (25, _), (26, _)] [(0, _), (101, _), (102, _)] ⟨rfl, rfl, rfl, rfl, trivial⟩ ⟨rfl, rfl, rfl, trivial⟩
        obtain ⟨F, hS⟩ := hS
        exact ⟨i + 1, F, ⟨by omega, fun j hj => by rcases Nat.lt_or_eq_of_le (Nat.le_of_lt_succ hj) with h | h; exact hq j h; rw [h]; exact hqi⟩, hS, by omega⟩
    · skip
      have hT : u.txs = v.txs := list_same hTl fun j hj => hq j (by simp at hc1; omega)
      clear hq hi
      refine wp_exit ?_
      refine then_x ?_
      refine then_x ?_
      refine block_x ?_
      refine then_n ?_
      refine wp_seq ?_
      refine wp_seq ?_
      refine region_seq hS (by kernel_rfl)
          (Chain.cons (Cert.free rfl (o_fieldAddr (off := 1) 101 .is (by kernel_rfl) (by rfl))) ⟨rfl, trivial⟩ ⟨rfl, trivial⟩
          (Chain.cons (Cert.free rfl (o_load (ag := false) (sz := 1) 101 .adr (by kernel_rfl) (by kernel_rfl) (by kernel_rfl) (by rfl))) ⟨rfl, trivial⟩ ⟨rfl, trivial⟩
          (Chain.cons (Cert.free rfl (o_len_sl Try.underlying51 .t)) ⟨rfl, trivial⟩ trivial
          (Chain.cons (Cert.free rfl (o_move (.ci (by kernel_rfl)) (by rfl))) trivial trivial
          Chain.nil))))
          (by kernel_rfl) (by rw [hB]; kernel_rfl) ?_
      clear hS; intro a w F hS
      replace hS := hS.norm [(2, _), (3, _), (44, _), (45, _)] [(0, _), (101, _), (102, _)] ⟨rfl, rfl, rfl, rfl, trivial⟩ ⟨rfl, rfl, rfl, trivial⟩
      obtain ⟨F, hS⟩ := hS
      try dsimp only [RS.sub, SF.sub, CF.sub, csub, Anc.sub, stCells, List.map, List.length_cons, List.length_nil, Nat.reduceAdd, List.drop_succ_cons, List.drop_zero, List.drop_nil, List.take_succ_cons, List.take_zero, List.take_nil, List.cons_append, List.nil_append, zCF, ldSF] at hS
      refine then_n ?_
      refine wp_block ?_
      replace hS := hS.norm [(2, _), (3, _), (44, _), (45, _)] [(0, _), (101, _), (102, _)] ⟨rfl, rfl, rfl, rfl, trivial⟩ ⟨rfl, rfl, rfl, trivial⟩
      obtain ⟨F, hS⟩ := hS
      refine loop_inv (σ := Nat) (fun s => (⟨[(2, .pv (.is v2)), (3, .pv (.is v3)), (44, .pv (.int .i64 u.orders.length)), (45, .pv (.int .i64 s))], [(0, frame B), (101, .pt (.val v2) 91 [.pv (.sl rTx u.txs), .pv (.sl rOrd u.orders)]), (102, .pt (.val v3) 91 [.pv (.sl rTx v.txs), .pv (.sl rOrd v.orders)])]⟩ : En)) (fun s => s ≤ u.orders.length ∧ ∀ j, j < s → Go.Gm.nth u.orders j = Go.Gm.nth v.orders j) (fun s => u.orders.length - s) 0 hS ⟨Nat.zero_le _, fun j hj => absurd hj (Nat.not_lt_zero j)⟩ ?_
      clear hS; intro i a w F hC hS
      try dsimp only at hC
      try dsimp only at hS
      obtain ⟨hi, hq⟩ := hC
      refine wp_seq ?_
      refine region_seq hS (by kernel_rfl)
          (Chain.cons (Cert.free rfl (o_lss .t .t)) ⟨rfl, rfl, trivial⟩ trivial
          Chain.nil)
          (by kernel_rfl) (by rw [hB]; kernel_rfl) ?_
      clear hS; intro a w F hS
      replace hS := hS.norm [(2, _), (3, _), (44, _), (45, _), (46, _)] [(0, _), (101, _), (102, _)] ⟨rfl, rfl, rfl, rfl, rfl, trivial⟩ ⟨rfl, rfl, rfl, trivial⟩
      obtain ⟨F, hS⟩ := hS
      try dsimp only [RS.sub, SF.sub, CF.sub, csub, Anc.sub, stCells, List.map, List.length_cons, List.length_nil, Nat.reduceAdd, List.drop_succ_cons, List.drop_zero, List.drop_nil, List.take_succ_cons, List.take_zero, List.take_nil, List.cons_append, List.nil_append, zCF, ldSF] at hS
      refine then_n ?_
      refine wp_seq ?_
      refine cond_b hS rfl (fun hc3 => ?_) (fun hc3 => ?_)
      · skip
        have hil : i < u.orders.length := by simp at hc3; omega
        refine wp_skip ?_
        refine then_n ?_
        refine wp_seq ?_
        refine wp_block ?_
        refine wp_seq ?_
        refine region_seq hS (by kernel_rfl)
            (Chain.cons (Cert.free rfl (o_move .t (by rfl))) ⟨rfl, trivial⟩ trivial
            (Chain.cons (Cert.free rfl (o_assign .t (by rfl))) ⟨rfl, trivial⟩ trivial
            Chain.nil))
            (by kernel_rfl) (by rw [hB]; kernel_rfl) ?_
        clear hS; intro a w F hS
        replace hS := hS.norm [(2, _), (3, _), (6, _), (44, _), (45, _), (46, _), (47, _)] [(0, _), (101, _), (102, _)] ⟨rfl, rfl, rfl, rfl, rfl, rfl, rfl, trivial⟩ ⟨rfl, rfl, rfl, trivial⟩
        obtain ⟨F, hS⟩ := hS
        try dsimp only [RS.sub, SF.sub, CF.sub, csub, Anc.sub, stCells, List.map, List.length_cons, List.length_nil, Nat.reduceAdd, List.drop_succ_cons, List.drop_zero, List.drop_nil, List.take_succ_cons, List.take_zero, List.take_nil, List.cons_append, List.nil_append, zCF, ldSF] at hS
        skip
        refine then_n ?_
        refine wp_seq ?_
        refine region_any (by kernel_rfl) hS (by kernel_rfl)
            (Chain.cons (Cert.free rfl (o_fieldAddr (off := 1) 101 .is (by kernel_rfl) (by rfl))) ⟨rfl, trivial⟩ ⟨rfl, trivial⟩
            (Chain.cons (Cert.free rfl (o_load (ag := false) (sz := 1) 101 .adr (by kernel_rfl) (by kernel_rfl) (by kernel_rfl) (by rfl))) ⟨rfl, trivial⟩ ⟨rfl, trivial⟩
            (Chain.cons (Cert.free rfl (o_move .t (by rfl))) ⟨rfl, trivial⟩ trivial
            (Chain.cons (Cert.free rfl (o_indexAddr_sl (sz := 2) (.mk Try.underlying51 (by kernel_rfl)) (by intro x; rfl) .t .t (by omega) (by omega))) ⟨rfl, rfl, trivial⟩ trivial
            (Chain.cons (Cert.free rfl (o_load_ref (ag := true) (sz := 2) .t (by kernel_rfl) (by kernel_rfl) (by kernel_rfl))) ⟨rfl, trivial⟩ trivial
            (Chain.cons (Cert.free rfl (o_fieldAddr (off := 1) 102 .is (by kernel_rfl) (by rfl))) ⟨rfl, trivial⟩ ⟨rfl, trivial⟩
            (Chain.cons (Cert.free rfl (o_load (ag := false) (sz := 1) 102 .adr (by kernel_rfl) (by kernel_rfl) (by kernel_rfl) (by rfl))) ⟨rfl, trivial⟩ ⟨rfl, trivial⟩
            (Chain.cons (Cert.free rfl (o_move .t (by rfl))) ⟨rfl, trivial⟩ trivial
            (Chain.cons (Cert.free rfl (o_indexAddr_sl (sz := 2) (.mk Try.underlying51 (by kernel_rfl)) (by intro x; rfl) .t .t (by omega) (by omega))) ⟨rfl, rfl, trivial⟩ trivial
            (Chain.cons (Cert.free rfl (o_load_ref (ag := true) (sz := 2) .t (by kernel_rfl) (by kernel_rfl) (by kernel_rfl))) ⟨rfl, trivial⟩ trivial
            (Chain.cons (Cert.free rfl (o_callP (sameOrder_c (Go.Gm.nth u.orders (i : Int).toNat) (Go.Gm.nth v.orders (i : Int).toNat)) Try.func58 rfl (by kernel_rfl) (Args.two (.pagg .t) (.pagg .t)))) ⟨rfl, rfl, trivial⟩ trivial
            (Chain.cons (Cert.free rfl (o_not .t)) ⟨rfl, trivial⟩ trivial
            Chain.nil))))))))))))
            (by kernel_rfl) (by rw [hB]; kernel_rfl) ?_
        clear hS; intro a w F hS
        replace hS := hS.norm [(2, _), (3, _), (6, _), (44, _), (45, _), (46, _), (47, _), (48, _), (49, _), (50, _), (51, _), (52, _), (53, _), (54, _), (55, _), (56, _), (57, _), (58, _), (59, _)] [(0, _), (101, _), (102, _)] ⟨rfl, rfl, rfl, rfl, rfl, rfl, rfl, rfl, rfl, rfl, rfl, rfl, rfl, rfl, rfl, rfl, rfl, rfl, rfl, trivial⟩ ⟨rfl, rfl, rfl, trivial⟩
        obtain ⟨F, hS⟩ := hS
        try dsimp only [RS.sub, SF.sub, CF.sub, csub, Anc.sub, stCells, List.map, List.length_cons, List.length_nil, Nat.reduceAdd, List.drop_succ_cons, List.drop_zero, List.drop_nil, List.take_succ_cons, List.take_zero, List.take_nil, List.cons_append, List.nil_append, zCF, ldSF] at hS
        refine then_n ?_
        refine cond_b hS rfl (fun hc4 => ?_) (fun hc4 => ?_)
        · skip
          have hg : false = decide (u = v) := by
            rw [eq_comm, decide_eq_false_iff_not]
            intro h
            subst h
            simp at hc4
          refine wp_seq ?_
          refine region_seq hS (by kernel_rfl)
              (Chain.cons (Cert.free rfl (o_assign .cb (by rfl))) trivial trivial
              Chain.nil)
              (by kernel_rfl) (by rw [hB]; kernel_rfl) ?_
          clear hS; intro a w F hS
          replace hS := hS.norm [(2, _), (3, _), (4, _), (6, _), (44, _), (45, _), (46, _), (47, _), (48, _), (49, _), (50, _), (51, _), (52, _), (53, _), (54, _), (55, _), (56, _), (57, _), (58, _), (59, _)] [(0, _), (101, _), (102, _)] ⟨rfl, rfl, rfl, rfl, rfl, rfl, rfl, rfl, rfl, rfl, rfl, rfl, rfl, rfl, rfl, rfl, rfl, rfl, rfl, rfl, trivial⟩ ⟨rfl, rfl, rfl, trivial⟩
          obtain ⟨F, hS⟩ := hS
          try dsimp only [RS.sub, SF.sub, CF.sub, csub, Anc.sub, stCells, List.map, List.length_cons, List.length_nil, Nat.reduceAdd, List.drop_succ_cons, List.drop_zero, List.drop_nil, List.take_succ_cons, List.take_zero, List.take_nil, List.cons_append, List.nil_append, zCF, ldSF] at hS
          refine then_n ?_
          refine wp_ret ?_
          refine block_r ?_
          refine then_r ?_
          refine then_r ?_
          refine block_r ?_
          refine then_r ?_
          refine ret_P hfr hS rfl (.tmp rfl .nil) (.one (.bool hg))
        · skip
          rw [Int.toNat_natCast] at hc4
          have hqi : Go.Gm.nth u.orders i = Go.Gm.nth v.orders i := by simpa using hc4
          refine wp_skip ?_
          refine block_n ?_
          refine then_n ?_
          refine region_seq hS (by kernel_rfl)
              (Chain.cons (Cert.free rfl (o_add .t (.ci (by kernel_rfl)))) ⟨rfl, trivial⟩ trivial
              (Chain.cons (Cert.free rfl (o_move .t (by rfl))) ⟨rfl, trivial⟩ trivial
              Chain.nil))
              (by kernel_rfl) (by rw [hB]; kernel_rfl) ?_
          clear hS; intro a w F hS
          replace hS := hS.norm [(2, _), (3, _), (6, _), (44, _), (45, _), (46, _), (47, _), (48, _), (49, _), (50, _), (51, _), (52, _), (53, _), (54, _), (55, _), (56, _), (57, _), (58, _), (59, _), (60, _)] [(0, _), (101, _), (102, _)] ⟨rfl, rfl, rfl, rfl, rfl, rfl, rfl, rfl, rfl, rfl, rfl, rfl, rfl, rfl, rfl, rfl, rfl, rfl, rfl, rfl, trivial⟩ ⟨rfl, rfl, rfl, trivial⟩
          obtain ⟨F, hS⟩ := hS
          try dsimp only [RS.sub, SF.sub, CF.sub, csub, Anc.sub, stCells, List.map, List.length_cons, List.length_nil, Nat.reduceAdd, List.drop_succ_cons, List.drop_zero, List.drop_nil, List.take_succ_cons, List.take_zero, List.take_nil, List.cons_append, List.nil_append, zCF, ldSF] at hS
          refine then_n ?_
          replace hS := hS.ent (i := 45) (s' := .pv (.int .i64 ((i + 1 : Nat) : Int))) rfl (.int (wrap_succ (by omega)))
          replace hS := hS.norm [(2, _), (3, _), (44, _), (45, _)] [(0, _), (101, _), (102, _)] ⟨rfl, rfl, rfl, rfl, trivial⟩ ⟨rfl, rfl, rfl, trivial⟩
          obtain ⟨F, hS⟩ := hS
          exact ⟨i + 1, F, ⟨by omega, fun j hj => by rcases Nat.lt_or_eq_of_le (Nat.le_of_lt_succ hj) with h | h; exact hq j h; rw [h]; exact hqi⟩, hS, by omega⟩
      · skip
        have hO : u.orders = v.orders := list_same hOl fun j hj => hq j (by simp at hc3; omega)
        have hg : true = decide (u = v) := by
          rw [← histD_eq, hT, hO]
          simp
        refine wp_exit ?_
        refine then_x ?_
        refine then_x ?_
        refine block_x ?_
        refine then_n ?_
        refine wp_seq ?_
        refine region_seq hS (by kernel_rfl)
            (Chain.cons (Cert.free rfl (o_assign .cb (by rfl))) trivial trivial
            Chain.nil)
            (by kernel_rfl) (by rw [hB]; kernel_rfl) ?_
        clear hS; intro a w F hS
        replace hS := hS.norm [(4, _)] [(0, _)] ⟨rfl, trivial⟩ ⟨rfl, trivial⟩
        obtain ⟨F, hS⟩ := hS
        try dsimp only [RS.sub, SF.sub, CF.sub, csub, Anc.sub, stCells, List.map, List.length_cons, List.length_nil, Nat.reduceAdd, List.drop_succ_cons, List.drop_zero, List.drop_nil, List.take_succ_cons, List.take_zero, List.take_nil, List.cons_append, List.nil_append, zCF, ldSF] at hS
        refine then_n ?_
        refine wp_ret ?_
        refine ret_P hfr hS rfl (.tmp rfl .nil) (.one (.bool hg))

theorem sameDelta_c (u v : DeltaD) : FnP Try.prog 28 [.agg (rDelta u), .agg (rDelta v)] (.bool (decide (u = v))) := by
  refine FnP.mk Try.func28 rfl Try.ntmps28 rfl ?_
  intro B a w F hB hfr hS
  refine wp_seq ?_
  refine region_seq hS (by kernel_rfl)
      (Chain.cons (Cert.free rfl (o_boxA 101 (.conv .t .agg) (by kernel_rfl))) ⟨rfl, trivial⟩ trivial
      (Chain.cons (Cert.free rfl (o_boxA 102 (.conv .t .agg) (by kernel_rfl))) ⟨rfl, trivial⟩ trivial
      (Chain.cons (Cert.free rfl (o_assign .cb (by rfl))) trivial trivial
      Chain.nil)))
      (by kernel_rfl) (by rw [hB]; kernel_rfl) ?_
  clear hS; intro a w F hS
  replace hS := hS.sub
  replace hS := hS.norm [(2, _), (3, _), (4, _)] [(0, _), (101, _), (102, _)] ⟨rfl, rfl, rfl, trivial⟩ ⟨rfl, rfl, rfl, trivial⟩
  obtain ⟨F, hS⟩ := hS
  try dsimp only [RS.sub, SF.sub, CF.sub, csub, Anc.sub, stCells, List.map, List.length_cons, List.length_nil, Nat.reduceAdd, List.drop_succ_cons, List.drop_zero, List.drop_nil, List.take_succ_cons, List.take_zero, List.take_nil, List.cons_append, List.nil_append, zCF, ldSF] at hS
  generalize Act.tau a 2 = v2 at hS
  generalize Act.tau a 3 = v3 at hS
  refine then_n ?_
  refine wp_seq ?_
  refine region_seq hS (by kernel_rfl)
      (Chain.cons (Cert.free rfl (o_fieldAddr (off := 0) 101 .is (by kernel_rfl) (by rfl))) ⟨rfl, trivial⟩ ⟨rfl, trivial⟩
      (Chain.cons (Cert.free rfl (o_load (ag := false) (sz := 1) 101 .adr (by kernel_rfl) (by kernel_rfl) (by kernel_rfl) (by rfl))) ⟨rfl, trivial⟩ ⟨rfl, trivial⟩
      (Chain.cons (Cert.free rfl (o_fieldAddr (off := 2) 101 .is (by kernel_rfl) (by rfl))) ⟨rfl, trivial⟩ ⟨rfl, trivial⟩
      (Chain.cons (Cert.free rfl (o_load (ag := false) (sz := 1) 101 .adr (by kernel_rfl) (by kernel_rfl) (by kernel_rfl) (by rfl))) ⟨rfl, trivial⟩ ⟨rfl, trivial⟩
      (Chain.cons (Cert.free rfl (o_build (r := [(0, .tmp 6), (1, .tmp 8)]) (zs := [.slice none 0 0, .slice none 0 0]) (pl := [(0, 1), (1, 1)]) (by kernel_rfl) (by kernel_rfl) (.one rfl .t one_sl (by kernel_rfl) (.one rfl .t one_sl (by kernel_rfl) .nil)) (by rfl))) ⟨rfl, rfl, trivial⟩ trivial
      (Chain.cons (Cert.free rfl (o_fieldAddr (off := 0) 102 .is (by kernel_rfl) (by rfl))) ⟨rfl, trivial⟩ ⟨rfl, trivial⟩
      (Chain.cons (Cert.free rfl (o_load (ag := false) (sz := 1) 102 .adr (by kernel_rfl) (by kernel_rfl) (by kernel_rfl) (by rfl))) ⟨rfl, trivial⟩ ⟨rfl, trivial⟩
      (Chain.cons (Cert.free rfl (o_fieldAddr (off := 2) 102 .is (by kernel_rfl) (by rfl))) ⟨rfl, trivial⟩ ⟨rfl, trivial⟩
      (Chain.cons (Cert.free rfl (o_load (ag := false) (sz := 1) 102 .adr (by kernel_rfl) (by kernel_rfl) (by kernel_rfl) (by rfl))) ⟨rfl, trivial⟩ ⟨rfl, trivial⟩
      (Chain.cons (Cert.free rfl (o_build (r := [(0, .tmp 11), (1, .tmp 13)]) (zs := [.slice none 0 0, .slice none 0 0]) (pl := [(0, 1), (1, 1)]) (by kernel_rfl) (by kernel_rfl) (.one rfl .t one_sl (by kernel_rfl) (.one rfl .t one_sl (by kernel_rfl) .nil)) (by rfl))) ⟨rfl, rfl, trivial⟩ trivial
      (Chain.cons (Cert.free rfl (o_callP (sameHist_c ⟨u.was, u.old⟩ ⟨v.was, v.old⟩) Try.func48 rfl (by kernel_rfl) (Args.two (.pagg .t) (.pagg .t)))) ⟨rfl, rfl, trivial⟩ trivial
      (Chain.cons (Cert.free rfl (o_move .t (by rfl))) ⟨rfl, trivial⟩ trivial
      (Chain.cons (Cert.cond rfl rfl (fun h => o_fieldAddr (off := 1) 101 .is (by kernel_rfl) (by rfl))) ⟨rfl, rfl, trivial⟩ ⟨rfl, trivial⟩
      (Chain.cons (Cert.cond rfl rfl (fun h => o_load (ag := false) (sz := 1) 101 (.w h .adr) (by kernel_rfl) (by kernel_rfl) (by kernel_rfl) (by rfl))) ⟨rfl, rfl, trivial⟩ ⟨rfl, trivial⟩
      (Chain.cons (Cert.cond rfl rfl (fun h => o_fieldAddr (off := 3) 101 .is (by kernel_rfl) (by rfl))) ⟨rfl, rfl, trivial⟩ ⟨rfl, trivial⟩
      (Chain.cons (Cert.cond rfl rfl (fun h => o_load (ag := false) (sz := 1) 101 (.w h .adr) (by kernel_rfl) (by kernel_rfl) (by kernel_rfl) (by rfl))) ⟨rfl, rfl, trivial⟩ ⟨rfl, trivial⟩
      (Chain.cons (Cert.cond rfl rfl (fun h => o_build (r := [(0, .tmp 18), (1, .tmp 20)]) (zs := [.slice none 0 0, .slice none 0 0]) (pl := [(0, 1), (1, 1)]) (by kernel_rfl) (by kernel_rfl) (.one rfl (.w h) one_sl (by kernel_rfl) (.one rfl (.w h) one_sl (by kernel_rfl) .nil)) (by rfl))) ⟨rfl, rfl, rfl, trivial⟩ trivial
      (Chain.cons (Cert.cond rfl rfl (fun h => o_fieldAddr (off := 1) 102 .is (by kernel_rfl) (by rfl))) ⟨rfl, rfl, trivial⟩ ⟨rfl, trivial⟩
      (Chain.cons (Cert.cond rfl rfl (fun h => o_load (ag := false) (sz := 1) 102 (.w h .adr) (by kernel_rfl) (by kernel_rfl) (by kernel_rfl) (by rfl))) ⟨rfl, rfl, trivial⟩ ⟨rfl, trivial⟩
      (Chain.cons (Cert.cond rfl rfl (fun h => o_fieldAddr (off := 3) 102 .is (by kernel_rfl) (by rfl))) ⟨rfl, rfl, trivial⟩ ⟨rfl, trivial⟩
      (Chain.cons (Cert.cond rfl rfl (fun h => o_load (ag := false) (sz := 1) 102 (.w h .adr) (by kernel_rfl) (by kernel_rfl) (by kernel_rfl) (by rfl))) ⟨rfl, rfl, trivial⟩ ⟨rfl, trivial⟩
      (Chain.cons (Cert.cond rfl rfl (fun h => o_build (r := [(0, .tmp 23), (1, .tmp 25)]) (zs := [.slice none 0 0, .slice none 0 0]) (pl := [(0, 1), (1, 1)]) (by kernel_rfl) (by kernel_rfl) (.one rfl (.w h) one_sl (by kernel_rfl) (.one rfl (.w h) one_sl (by kernel_rfl) .nil)) (by rfl))) ⟨rfl, rfl, rfl, trivial⟩ trivial
      (Chain.cons (Cert.cond rfl rfl (fun h => o_callP (sameHist_c ⟨u.now, u.new⟩ ⟨v.now, v.new⟩) Try.func48 rfl (by kernel_rfl) (Args.two (.pagg (.w h)) (.pagg (.w h))))) ⟨rfl, rfl, rfl, trivial⟩ trivial
      (Chain.cons (Cert.free rfl (o_and2 .t .t)) ⟨rfl, rfl, trivial⟩ trivial
      (Chain.cons (Cert.free rfl (o_assign .t (by rfl))) ⟨rfl, trivial⟩ trivial
      Chain.nil)))))))))))))))))))))))))
      (by kernel_rfl) (by rw [hB]; kernel_rfl) ?_
  clear hS; intro a w F hS
  replace hS := hS.norm [(4, _)] [(0, _)] ⟨rfl, trivial⟩ ⟨rfl, trivial⟩
  obtain ⟨F, hS⟩ := hS
  try dsimp only [RS.sub, SF.sub, CF.sub, csub, Anc.sub, stCells, List.map, List.length_cons, List.length_nil, Nat.reduceAdd, List.drop_succ_cons, List.drop_zero, List.drop_nil, List.take_succ_cons, List.take_zero, List.take_nil, List.cons_append, List.nil_append, zCF, ldSF] at hS
  refine then_n ?_
  refine wp_ret ?_
  refine ret_P hfr hS rfl (.tmp rfl .nil) (.one (.bool (deltaD_eq u v)))

end Go.Proofs.Ytmdhidjpnmkmjaa
