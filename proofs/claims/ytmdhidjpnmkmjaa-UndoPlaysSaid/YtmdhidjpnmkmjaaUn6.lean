/- UndoPlays. No condition beyond those that each theorem says. -/
import Derived.Test.YtmdhidjpnmkmjaaUn5
namespace Go.Proofs.Ytmdhidjpnmkmjaa
open Go Go.Gm
set_option linter.unusedVariables false
set_option linter.unusedSimpArgs false
set_option maxHeartbeats 4000000
set_option maxRecDepth 8000

theorem logH_fit {v : Value} {n : Nat} {D U : List DeltaD} {w : World} {f y : Ys} (h : (logH v n D U).p w f y) : D.length + U.length ≤ 4096 := by
  obtain ⟨_, _, _, hI, _⟩ := h
  have h1 := hI.fits
  have h2 := hI.room
  rw [List.length_append, List.length_reverse] at h1
  omega

theorem playsU_c (m : Int) (l : List DeedU) : FnP Try.prog 5 [.int .i64 m, .sl rDeedU l] (.bool true) := by
  refine FnP.mk Try.func5 rfl Try.ntmps5 rfl ?_
  intro B a w F hB hfr hS
  refine wp_seq ?_
  refine region_seq hS (by kernel_rfl)
      (Chain.cons (Cert.free rfl (o_assign .cb (by rfl))) trivial trivial
      Chain.nil)
      (by kernel_rfl) (by rw [hB]; kernel_rfl) ?_
  clear hS; intro a w F hS
  replace hS := hS.norm [(0, _), (1, _), (4, _)] [(0, _)] ⟨rfl, rfl, rfl, trivial⟩ ⟨rfl, trivial⟩
  obtain ⟨F, hS⟩ := hS
  try dsimp only [RS.sub, SF.sub, CF.sub, csub, Anc.sub, stCells, List.map, List.length_cons, List.length_nil, Nat.reduceAdd, List.drop_succ_cons, List.drop_zero, List.drop_nil, List.take_succ_cons, List.take_zero, List.take_nil, List.cons_append, List.nil_append, zCF, ldSF] at hS
  refine then_n ?_
  refine wp_seq ?_
  replace hS := hS.fresh 101 rfl
  refine region_seq hS (by kernel_rfl)
      (Chain.cons (Cert.free rfl (o_move .t (by rfl))) ⟨rfl, trivial⟩ trivial
      (Chain.cons (Cert.free rfl (o_callN 101 (unew_c m) Try.func19 rfl (by kernel_rfl) (Args.one .t) PV.ptr_one)) ⟨rfl, trivial⟩ ⟨rfl, trivial⟩
      (Chain.cons (Cert.free rfl (o_assign .t (by rfl))) ⟨rfl, trivial⟩ trivial
      Chain.nil)))
      (by kernel_rfl) (by rw [hB]; kernel_rfl) ?_
  clear hS; intro a w F hS
  replace hS := hS.sub
  replace hS := hS.norm [(0, _), (1, _), (4, _), (5, _)] [(0, _), (101, _)] ⟨rfl, rfl, rfl, rfl, trivial⟩ ⟨rfl, rfl, trivial⟩
  obtain ⟨F, hS⟩ := hS
  try dsimp only [RS.sub, SF.sub, CF.sub, csub, Anc.sub, stCells, List.map, List.length_cons, List.length_nil, Nat.reduceAdd, List.drop_succ_cons, List.drop_zero, List.drop_nil, List.take_succ_cons, List.take_zero, List.take_nil, List.cons_append, List.nil_append, zCF, ldSF] at hS
  generalize Act.tau a 14 = v14 at hS
  obtain ⟨_, _, _, ho⟩ := hS.obGet 101 rfl
  obtain ⟨b, rfl⟩ := logH_ptr ho
  clear ho
  replace hS := hS.turn 101 rfl (r' := RS.hp (logH (.pointer (some ⟨b, 0, none⟩)) (refRoomU m) [] [])) (fun _ _ _ _ h => h)
  replace hS := hS.norm [(0, _), (1, _), (4, _), (5, _)] [(0, _), (101, _)] ⟨rfl, rfl, rfl, rfl, trivial⟩ ⟨rfl, rfl, trivial⟩
  obtain ⟨F, hS⟩ := hS
  refine then_n ?_
  refine wp_seq ?_
  refine wp_seq ?_
  refine region_seq hS (by kernel_rfl)
      (Chain.cons (Cert.free rfl (o_move .t (by rfl))) ⟨rfl, trivial⟩ trivial
      (Chain.cons (Cert.free rfl (o_nil_eql _ Try.underlying44 rfl .t)) ⟨rfl, trivial⟩ trivial
      (Chain.cons (Cert.free rfl (o_move .t (by rfl))) ⟨rfl, trivial⟩ trivial
      (Chain.cons (Cert.cond rfl rfl (fun h => o_move .t (by rfl))) ⟨rfl, rfl, trivial⟩ trivial
      (Chain.cons (Cert.cond rfl rfl (fun h => o_callP (lightU_c l) Try.func20 rfl (by kernel_rfl) (Args.one (.w h)))) ⟨rfl, rfl, trivial⟩ trivial
      (Chain.cons (Cert.cond rfl rfl (fun h => o_not (.w h))) ⟨rfl, rfl, trivial⟩ trivial
      (Chain.cons (Cert.free rfl (o_or2 .t .t)) ⟨rfl, rfl, trivial⟩ trivial
      Chain.nil)))))))
      (by kernel_rfl) (by rw [hB]; kernel_rfl) ?_
  clear hS; intro a w F hS
  replace hS := hS.norm [(0, _), (1, _), (4, _), (5, _), (21, _)] [(0, _), (101, _)] ⟨rfl, rfl, rfl, rfl, rfl, trivial⟩ ⟨rfl, rfl, trivial⟩
  obtain ⟨F, hS⟩ := hS
  try dsimp only [RS.sub, SF.sub, CF.sub, csub, Anc.sub, stCells, List.map, List.length_cons, List.length_nil, Nat.reduceAdd, List.drop_succ_cons, List.drop_zero, List.drop_nil, List.take_succ_cons, List.take_zero, List.take_nil, List.cons_append, List.nil_append, zCF, ldSF] at hS
  refine then_n ?_
  refine cond_b hS rfl (fun hc0 => ?_) (fun hc0 => ?_)
  · skip
    refine wp_seq ?_
    refine region_seq hS (by kernel_rfl)
        (Chain.cons (Cert.free rfl (o_move .t (by rfl))) ⟨rfl, trivial⟩ trivial
        (Chain.cons (Cert.free rfl (o_nil_neq _ Try.underlying44 rfl .t)) ⟨rfl, trivial⟩ trivial
        (Chain.cons (Cert.free rfl (o_move .t (by rfl))) ⟨rfl, trivial⟩ trivial
        (Chain.cons (Cert.cond rfl rfl (fun h => o_callP (livesU_c) Try.func21 rfl (by kernel_rfl) Args.nil)) ⟨rfl, trivial⟩ trivial
        (Chain.cons (Cert.free rfl (o_and2 .t .t)) ⟨rfl, rfl, trivial⟩ trivial
        (Chain.cons (Cert.free rfl (o_assign .t (by rfl))) ⟨rfl, trivial⟩ trivial
        Chain.nil))))))
        (by kernel_rfl) (by rw [hB]; kernel_rfl) ?_
    clear hS; intro a w F hS
    replace hS := hS.norm [(0, _), (1, _), (4, _), (5, _)] [(0, _), (101, _)] ⟨rfl, rfl, rfl, rfl, trivial⟩ ⟨rfl, rfl, trivial⟩
    obtain ⟨F, hS⟩ := hS
    try dsimp only [RS.sub, SF.sub, CF.sub, csub, Anc.sub, stCells, List.map, List.length_cons, List.length_nil, Nat.reduceAdd, List.drop_succ_cons, List.drop_zero, List.drop_nil, List.take_succ_cons, List.take_zero, List.take_nil, List.cons_append, List.nil_append, zCF, ldSF] at hS
    refine then_n ?_
    refine wp_ret ?_
    refine then_r ?_
    refine ret_P hfr hS rfl (.tmp rfl .nil) (.one (.bool (by first | rfl | simp)))
  · skip
    have hL : LightU l := by simp at hc0; exact hc0
    have hlen := hL.1
    refine wp_skip ?_
    refine then_n ?_
    refine wp_seq ?_
    refine region_seq hS (by kernel_rfl)
        (Chain.cons (Cert.free rfl (o_alloc (zs := [.slice none 0 0, .slice none 0 0]) 102 (by kernel_rfl))) trivial trivial
        Chain.nil)
        (by kernel_rfl) (by rw [hB]; kernel_rfl) ?_
    clear hS; intro a w F hS
    replace hS := hS.sub
    replace hS := hS.norm [(0, _), (1, _), (4, _), (5, _), (6, _)] [(0, _), (101, _), (102, _)] ⟨rfl, rfl, rfl, rfl, rfl, trivial⟩ ⟨rfl, rfl, rfl, trivial⟩
    obtain ⟨F, hS⟩ := hS
    try dsimp only [RS.sub, SF.sub, CF.sub, csub, Anc.sub, stCells, List.map, List.length_cons, List.length_nil, Nat.reduceAdd, List.drop_succ_cons, List.drop_zero, List.drop_nil, List.take_succ_cons, List.take_zero, List.take_nil, List.cons_append, List.nil_append, zCF, ldSF] at hS
    generalize Act.tau a 6 = v6 at hS
    replace hS := hS.turn 102 rfl (r' := RS.pt (.val v6) 49 [.pv (.sl rDelta []), .pv (.sl rDelta [])]) (ptLe rfl rfl ⟨.nilSl, .nilSl, trivial⟩)
    replace hS := hS.norm [(0, _), (1, _), (4, _), (5, _), (6, _)] [(0, _), (101, _), (102, _)] ⟨rfl, rfl, rfl, rfl, rfl, trivial⟩ ⟨rfl, rfl, rfl, trivial⟩
    obtain ⟨F, hS⟩ := hS
    refine then_n ?_
    refine wp_seq ?_
    refine wp_seq ?_
    refine region_seq hS (by kernel_rfl)
        (Chain.cons (Cert.free rfl (o_move .t (by rfl))) ⟨rfl, trivial⟩ trivial
        (Chain.cons (Cert.free rfl (o_len_sl Try.underlying43 .t)) ⟨rfl, trivial⟩ trivial
        (Chain.cons (Cert.free rfl (o_move (.ci (by kernel_rfl)) (by rfl))) trivial trivial
        Chain.nil)))
        (by kernel_rfl) (by rw [hB]; kernel_rfl) ?_
    clear hS; intro a w F hS
    replace hS := hS.norm [(0, _), (4, _), (5, _), (6, _), (27, _), (28, _), (29, _)] [(0, _), (101, _), (102, _)] ⟨rfl, rfl, rfl, rfl, rfl, rfl, rfl, trivial⟩ ⟨rfl, rfl, rfl, trivial⟩
    obtain ⟨F, hS⟩ := hS
    try dsimp only [RS.sub, SF.sub, CF.sub, csub, Anc.sub, stCells, List.map, List.length_cons, List.length_nil, Nat.reduceAdd, List.drop_succ_cons, List.drop_zero, List.drop_nil, List.take_succ_cons, List.take_zero, List.take_nil, List.cons_append, List.nil_append, zCF, ldSF] at hS
    refine then_n ?_
    refine wp_block ?_
    replace hS := hS.norm [(0, _), (5, _), (6, _), (27, _), (28, _), (29, _)] [(0, _), (101, _), (102, _)] ⟨rfl, rfl, rfl, rfl, rfl, rfl, trivial⟩ ⟨rfl, rfl, rfl, trivial⟩
    obtain ⟨F, hS⟩ := hS
    refine loop_inv (σ := (Nat × (List DeltaD × List DeltaD))) (fun s => (⟨[(0, .pv (.int .i64 m)), (5, .pv (.is (.pointer (some ⟨b, 0, none⟩)))), (6, .pv (.is v6)), (27, .pv (.sl rDeedU l)), (28, .pv (.int .i64 l.length)), (29, .pv (.int .i64 s.1))], [(0, frame B), (101, RS.hp (logH (.pointer (some ⟨b, 0, none⟩)) (refRoomU m) s.2.1 s.2.2)), (102, RS.pt (.val v6) 49 [.pv (.sl rDelta s.2.1), .pv (.sl rDelta s.2.2)])]⟩ : En)) (fun s => s.1 ≤ l.length) (fun s => l.length - s.1) (0, ([], [])) hS (Nat.zero_le _) ?_
    clear hS; intro s a w F hC hS
    obtain ⟨i, D, U⟩ := s
    try dsimp only at hC
    try dsimp only at hS
    have hi : i ≤ l.length := hC
    obtain ⟨_, _, _, ho⟩ := hS.obGet 101 rfl
    have hfit := logH_fit ho
    clear ho
    refine wp_seq ?_
    refine region_seq hS (by kernel_rfl)
        (Chain.cons (Cert.free rfl (o_lss .t .t)) ⟨rfl, rfl, trivial⟩ trivial
        Chain.nil)
        (by kernel_rfl) (by rw [hB]; kernel_rfl) ?_
    clear hS; intro a w F hS
    replace hS := hS.norm [(0, _), (5, _), (6, _), (27, _), (28, _), (29, _), (30, _)] [(0, _), (101, _), (102, _)] ⟨rfl, rfl, rfl, rfl, rfl, rfl, rfl, trivial⟩ ⟨rfl, rfl, rfl, trivial⟩
    obtain ⟨F, hS⟩ := hS
    try dsimp only [RS.sub, SF.sub, CF.sub, csub, Anc.sub, stCells, List.map, List.length_cons, List.length_nil, Nat.reduceAdd, List.drop_succ_cons, List.drop_zero, List.drop_nil, List.take_succ_cons, List.take_zero, List.take_nil, List.cons_append, List.nil_append, zCF, ldSF] at hS
    refine then_n ?_
    refine wp_seq ?_
    refine cond_b hS rfl (fun hc1 => ?_) (fun hc1 => ?_)
    · skip
      have hil : i < l.length := by simp at hc1; omega
      refine wp_skip ?_
      refine then_n ?_
      refine wp_seq ?_
      refine wp_block ?_
      refine wp_seq ?_
      refine region_seq hS (by kernel_rfl)
          (Chain.cons (Cert.free rfl (o_indexAddr_sl (sz := 5) (.mk Try.underlying43 (by kernel_rfl)) (by intro x; rfl) .t .t (by omega) (by omega))) ⟨rfl, rfl, trivial⟩ trivial
          (Chain.cons (Cert.free rfl (o_load_ref (ag := true) (sz := 5) .t (by kernel_rfl) (by kernel_rfl) (by kernel_rfl))) ⟨rfl, trivial⟩ trivial
          (Chain.cons (Cert.free rfl (o_alloc (zs := [.int .i64 0, .slice none 0 0, .slice none 0 0, .slice none 0 0, .slice none 0 0]) 103 (by kernel_rfl))) trivial trivial
          (Chain.cons (Cert.free rfl (o_storeA (sz := 5) 103 .same .t (by kernel_rfl) (by kernel_rfl) (by kernel_rfl))) ⟨rfl, rfl, trivial⟩ ⟨rfl, trivial⟩
          Chain.nil))))
          (by kernel_rfl) (by rw [hB]; kernel_rfl) ?_
      clear hS; intro a w F hS
      replace hS := hS.sub
      replace hS := hS.norm [(0, _), (5, _), (6, _), (8, _), (27, _), (28, _), (29, _), (30, _), (31, _), (32, _)] [(0, _), (101, _), (102, _), (103, _)] ⟨rfl, rfl, rfl, rfl, rfl, rfl, rfl, rfl, rfl, rfl, trivial⟩ ⟨rfl, rfl, rfl, rfl, trivial⟩
      obtain ⟨F, hS⟩ := hS
      try dsimp only [RS.sub, SF.sub, CF.sub, csub, Anc.sub, stCells, List.map, List.length_cons, List.length_nil, Nat.reduceAdd, List.drop_succ_cons, List.drop_zero, List.drop_nil, List.take_succ_cons, List.take_zero, List.take_nil, List.cons_append, List.nil_append, zCF, ldSF] at hS
      generalize Act.tau a 8 = v8 at hS
      rw [Int.toNat_natCast] at hS
      obtain ⟨d, hd⟩ : ∃ d, d = Go.Gm.nth l i := ⟨_, rfl⟩
      rw [← hd] at hS
      have hdo : DOk d.d := by rw [hd]; exact (hL.2 i hil).ok
      refine then_n ?_
      refine wp_seq ?_
      refine region_seq hS (by kernel_rfl)
          (Chain.cons (Cert.free rfl (o_alloc (zs := [.slice none 0 0, .slice none 0 0, .slice none 0 0, .slice none 0 0]) 104 (by kernel_rfl))) trivial trivial
          (Chain.cons (Cert.free rfl (o_alloc (zs := [.slice none 0 0, .slice none 0 0, .slice none 0 0, .slice none 0 0]) 105 (by kernel_rfl))) trivial trivial
          Chain.nil))
          (by kernel_rfl) (by rw [hB]; kernel_rfl) ?_
      clear hS; intro a w F hS
      replace hS := hS.sub
      replace hS := hS.norm [(0, _), (5, _), (6, _), (8, _), (9, _), (10, _), (27, _), (28, _), (29, _), (30, _), (31, _), (32, _)] [(0, _), (101, _), (102, _), (103, _), (104, _), (105, _)] ⟨rfl, rfl, rfl, rfl, rfl, rfl, rfl, rfl, rfl, rfl, rfl, rfl, trivial⟩ ⟨rfl, rfl, rfl, rfl, rfl, rfl, trivial⟩
      obtain ⟨F, hS⟩ := hS
      try dsimp only [RS.sub, SF.sub, CF.sub, csub, Anc.sub, stCells, List.map, List.length_cons, List.length_nil, Nat.reduceAdd, List.drop_succ_cons, List.drop_zero, List.drop_nil, List.take_succ_cons, List.take_zero, List.take_nil, List.cons_append, List.nil_append, zCF, ldSF] at hS
      generalize Act.tau a 9 = v9 at hS
      generalize Act.tau a 10 = v10 at hS
      replace hS := hS.turn 104 rfl (r' := RS.pt (.val v9) 53 [.pv (.sl rTx noD.was), .pv (.sl rTx noD.now), .pv (.sl rOrd noD.old), .pv (.sl rOrd noD.new)]) (ptLe rfl rfl noD_le)
      replace hS := hS.norm [(0, _), (5, _), (6, _), (8, _), (9, _), (10, _), (27, _), (28, _), (29, _), (30, _), (31, _), (32, _)] [(0, _), (101, _), (102, _), (103, _), (104, _), (105, _)] ⟨rfl, rfl, rfl, rfl, rfl, rfl, rfl, rfl, rfl, rfl, rfl, rfl, trivial⟩ ⟨rfl, rfl, rfl, rfl, rfl, rfl, trivial⟩
      obtain ⟨F, hS⟩ := hS
      replace hS := hS.turn 105 rfl (r' := RS.pt (.val v10) 53 [.pv (.sl rTx noD.was), .pv (.sl rTx noD.now), .pv (.sl rOrd noD.old), .pv (.sl rOrd noD.new)]) (ptLe rfl rfl noD_le)
      replace hS := hS.norm [(0, _), (5, _), (6, _), (8, _), (9, _), (10, _), (27, _), (28, _), (29, _), (30, _), (31, _), (32, _)] [(0, _), (101, _), (102, _), (103, _), (104, _), (105, _)] ⟨rfl, rfl, rfl, rfl, rfl, rfl, rfl, rfl, rfl, rfl, rfl, rfl, trivial⟩ ⟨rfl, rfl, rfl, rfl, rfl, rfl, trivial⟩
      obtain ⟨F, hS⟩ := hS
      refine then_n ?_
      refine wp_seq ?_
      refine region_seq hS (by kernel_rfl)
          (Chain.cons (Cert.free rfl (o_assign (.ci (by kernel_rfl)) (by rfl))) trivial trivial
          (Chain.cons (Cert.free rfl (o_assign (.ci (by kernel_rfl)) (by rfl))) trivial trivial
          Chain.nil))
          (by kernel_rfl) (by rw [hB]; kernel_rfl) ?_
      clear hS; intro a w F hS
      replace hS := hS.norm [(0, _), (5, _), (6, _), (8, _), (9, _), (10, _), (11, _), (12, _), (27, _), (28, _), (29, _), (30, _), (31, _), (32, _)] [(0, _), (101, _), (102, _), (103, _), (104, _), (105, _)] ⟨rfl, rfl, rfl, rfl, rfl, rfl, rfl, rfl, rfl, rfl, rfl, rfl, rfl, rfl, trivial⟩ ⟨rfl, rfl, rfl, rfl, rfl, rfl, trivial⟩
      obtain ⟨F, hS⟩ := hS
      try dsimp only [RS.sub, SF.sub, CF.sub, csub, Anc.sub, stCells, List.map, List.length_cons, List.length_nil, Nat.reduceAdd, List.drop_succ_cons, List.drop_zero, List.drop_nil, List.take_succ_cons, List.take_zero, List.take_nil, List.cons_append, List.nil_append, zCF, ldSF] at hS
      refine then_n ?_
      refine wp_seq ?_
      refine wp_seq ?_
      refine region_seq hS (by kernel_rfl)
          (Chain.cons (Cert.free rfl (o_fieldAddr (off := 0) 103 .is (by kernel_rfl) (by rfl))) ⟨rfl, trivial⟩ ⟨rfl, trivial⟩
          (Chain.cons (Cert.free rfl (o_load (ag := false) (sz := 1) 103 .adr (by kernel_rfl) (by kernel_rfl) (by kernel_rfl) (by rfl))) ⟨rfl, trivial⟩ ⟨rfl, trivial⟩
          Chain.nil))
          (by kernel_rfl) (by rw [hB]; kernel_rfl) ?_
      clear hS; intro a w F hS
      replace hS := hS.norm [(0, _), (5, _), (6, _), (8, _), (9, _), (10, _), (11, _), (12, _), (27, _), (28, _), (29, _), (30, _), (31, _), (32, _), (33, _), (34, _)] [(0, _), (101, _), (102, _), (103, _), (104, _), (105, _)] ⟨rfl, rfl, rfl, rfl, rfl, rfl, rfl, rfl, rfl, rfl, rfl, rfl, rfl, rfl, rfl, rfl, trivial⟩ ⟨rfl, rfl, rfl, rfl, rfl, rfl, trivial⟩
      obtain ⟨F, hS⟩ := hS
      try dsimp only [RS.sub, SF.sub, CF.sub, csub, Anc.sub, stCells, List.map, List.length_cons, List.length_nil, Nat.reduceAdd, List.drop_succ_cons, List.drop_zero, List.drop_nil, List.take_succ_cons, List.take_zero, List.take_nil, List.cons_append, List.nil_append, zCF, ldSF] at hS
      refine then_n ?_
      refine wp_block ?_
      refine wp_seq ?_
      refine wp_seq ?_
      refine region_seq hS (by kernel_rfl)
          (Chain.cons (Cert.free rfl (o_eql .t (.ci (by kernel_rfl)))) ⟨rfl, trivial⟩ trivial
          (Chain.cons (Cert.free rfl (o_assign .t (by rfl))) ⟨rfl, trivial⟩ trivial
          Chain.nil))
          (by kernel_rfl) (by rw [hB]; kernel_rfl) ?_
      clear hS; intro a w F hS
      replace hS := hS.norm [(0, _), (5, _), (6, _), (8, _), (9, _), (10, _), (11, _), (12, _), (27, _), (28, _), (29, _), (30, _), (31, _), (32, _), (33, _), (34, _), (35, _), (36, _)] [(0, _), (101, _), (102, _), (103, _), (104, _), (105, _)] ⟨rfl, rfl, rfl, rfl, rfl, rfl, rfl, rfl, rfl, rfl, rfl, rfl, rfl, rfl, rfl, rfl, rfl, rfl, trivial⟩ ⟨rfl, rfl, rfl, rfl, rfl, rfl, trivial⟩
      obtain ⟨F, hS⟩ := hS
      try dsimp only [RS.sub, SF.sub, CF.sub, csub, Anc.sub, stCells, List.map, List.length_cons, List.length_nil, Nat.reduceAdd, List.drop_succ_cons, List.drop_zero, List.drop_nil, List.take_succ_cons, List.take_zero, List.take_nil, List.cons_append, List.nil_append, zCF, ldSF] at hS
      refine then_n ?_
      refine cond_b hS rfl (fun hc2 => ?_) (fun hc2 => ?_)
      · skip
        refine wp_skip ?_
        refine then_n ?_
        refine cond_b hS rfl (fun hc3 => ?_) (fun hc3 => ?_)
        · skip
          refine wp_seq ?_
          refine region_seq hS (by kernel_rfl)
              (Chain.cons (Cert.free rfl (o_move .t (by rfl))) ⟨rfl, trivial⟩ trivial
              (Chain.cons (Cert.free rfl (o_fieldAddr (off := 1) 103 .is (by kernel_rfl) (by rfl))) ⟨rfl, trivial⟩ ⟨rfl, trivial⟩
              (Chain.cons (Cert.free rfl (o_load (ag := true) (sz := 4) 103 .adr (by kernel_rfl) (by kernel_rfl) (by kernel_rfl) (by rfl))) ⟨rfl, trivial⟩ ⟨rfl, trivial⟩
              (Chain.cons (Cert.free rfl (o_callG1 101 (push_c b (refRoomU m) D U d.d hdo) Try.func22 rfl (by kernel_rfl) (Args.two .t (.pagg .t)))) ⟨rfl, rfl, trivial⟩ ⟨rfl, trivial⟩
              Chain.nil))))
              (by kernel_rfl) (by rw [hB]; kernel_rfl) ?_
          clear hS; intro a w F hS
          replace hS := hS.norm [(0, _), (5, _), (6, _), (8, _), (9, _), (10, _), (11, _), (12, _), (27, _), (28, _), (29, _), (30, _), (31, _), (32, _), (33, _), (34, _), (35, _), (36, _), (38, _), (39, _), (40, _)] [(0, _), (101, _), (102, _), (103, _), (104, _), (105, _)] ⟨rfl, rfl, rfl, rfl, rfl, rfl, rfl, rfl, rfl, rfl, rfl, rfl, rfl, rfl, rfl, rfl, rfl, rfl, rfl, rfl, rfl, trivial⟩ ⟨rfl, rfl, rfl, rfl, rfl, rfl, trivial⟩
          obtain ⟨F, hS⟩ := hS
          try dsimp only [RS.sub, SF.sub, CF.sub, csub, Anc.sub, stCells, List.map, List.length_cons, List.length_nil, Nat.reduceAdd, List.drop_succ_cons, List.drop_zero, List.drop_nil, List.take_succ_cons, List.take_zero, List.take_nil, List.cons_append, List.nil_append, zCF, ldSF] at hS
          refine then_n ?_
          refine region_seq hS (by kernel_rfl)
              (Chain.cons (Cert.free rfl (o_load (ag := true) (sz := 2) 102 .is (by kernel_rfl) (by kernel_rfl) (by kernel_rfl) (by rfl))) ⟨rfl, trivial⟩ ⟨rfl, trivial⟩
              (Chain.cons (Cert.free rfl (o_move .t (by rfl))) ⟨rfl, trivial⟩ trivial
              (Chain.cons (Cert.free rfl (o_fieldAddr (off := 1) 103 .is (by kernel_rfl) (by rfl))) ⟨rfl, trivial⟩ ⟨rfl, trivial⟩
              (Chain.cons (Cert.free rfl (o_load (ag := true) (sz := 4) 103 .adr (by kernel_rfl) (by kernel_rfl) (by kernel_rfl) (by rfl))) ⟨rfl, trivial⟩ ⟨rfl, trivial⟩
              (Chain.cons (Cert.free rfl (o_callP (refPushU_c D U m d.d (by omega)) Try.func23 rfl (by kernel_rfl) (Args.three (.pagg .t) .t (.pagg .t)))) ⟨rfl, rfl, rfl, trivial⟩ trivial
              (Chain.cons (Cert.free rfl (o_storeA (sz := 2) 102 .is (.conv .t .agg) (by kernel_rfl) (by kernel_rfl) (by kernel_rfl))) ⟨rfl, rfl, trivial⟩ ⟨rfl, trivial⟩
              Chain.nil))))))
              (by kernel_rfl) (by rw [hB]; kernel_rfl) ?_
          clear hS; intro a w F hS
          replace hS := hS.norm [(0, _), (5, _), (6, _), (8, _), (9, _), (10, _), (11, _), (12, _), (27, _), (28, _), (29, _), (30, _), (31, _), (32, _), (33, _), (34, _), (35, _), (36, _), (38, _), (39, _), (40, _), (42, _), (43, _), (44, _), (45, _), (46, _)] [(0, _), (101, _), (102, _), (103, _), (104, _), (105, _)] ⟨rfl, rfl, rfl, rfl, rfl, rfl, rfl, rfl, rfl, rfl, rfl, rfl, rfl, rfl, rfl, rfl, rfl, rfl, rfl, rfl, rfl, rfl, rfl, rfl, rfl, rfl, trivial⟩ ⟨rfl, rfl, rfl, rfl, rfl, rfl, trivial⟩
          obtain ⟨F, hS⟩ := hS
          try dsimp only [RS.sub, SF.sub, CF.sub, csub, Anc.sub, stCells, List.map, List.length_cons, List.length_nil, Nat.reduceAdd, List.drop_succ_cons, List.drop_zero, List.drop_nil, List.take_succ_cons, List.take_zero, List.take_nil, List.cons_append, List.nil_append, zCF, ldSF] at hS
          refine block_n ?_
          refine then_n ?_
          refine wp_seq ?_
          refine region_any (by kernel_rfl) hS (by kernel_rfl)
              (Chain.cons (Cert.free rfl (o_move .t (by rfl))) ⟨rfl, trivial⟩ trivial
              (Chain.cons (Cert.free rfl (o_move .t (by rfl))) ⟨rfl, trivial⟩ trivial
              (Chain.cons (Cert.free rfl (o_neq .t .t)) ⟨rfl, rfl, trivial⟩ trivial
              (Chain.cons (Cert.free rfl (o_move .t (by rfl))) ⟨rfl, trivial⟩ trivial
              (Chain.cons (Cert.cond rfl rfl (fun h => o_load (ag := true) (sz := 4) 104 .is (by kernel_rfl) (by kernel_rfl) (by kernel_rfl) (by rfl))) ⟨rfl, rfl, trivial⟩ ⟨rfl, trivial⟩
              (Chain.cons (Cert.cond rfl rfl (fun h => o_load (ag := true) (sz := 4) 105 .is (by kernel_rfl) (by kernel_rfl) (by kernel_rfl) (by rfl))) ⟨rfl, rfl, trivial⟩ ⟨rfl, trivial⟩
              (Chain.cons (Cert.cond rfl rfl (fun h => o_callP (sameDelta_c noD noD) Try.func28 rfl (by kernel_rfl) (Args.two (.pagg (.w h)) (.pagg (.w h))))) ⟨rfl, rfl, rfl, trivial⟩ trivial
              (Chain.cons (Cert.cond rfl rfl (fun h => o_not (.w h))) ⟨rfl, rfl, trivial⟩ trivial
              (Chain.cons (Cert.free rfl (o_or2 .t .t)) ⟨rfl, rfl, trivial⟩ trivial
              (Chain.cons (Cert.free rfl (o_move .t (by rfl))) ⟨rfl, trivial⟩ trivial
              (Chain.cons (Cert.cond rfl rfl (fun h => o_move .t (by rfl))) ⟨rfl, rfl, trivial⟩ trivial
              (Chain.cons (Cert.condR rfl rfl (by rfl) (fun h => o_callG1 101 (len_c b (refRoomU m) (pushD (refRoomU m) D d.d) []) Try.func29 rfl (by kernel_rfl) (Args.one (.w h)))) ⟨rfl, rfl, trivial⟩ ⟨rfl, trivial⟩
              (Chain.cons (Cert.cond rfl rfl (fun h => o_fieldAddr (off := 0) 102 .is (by kernel_rfl) (by rfl))) ⟨rfl, rfl, trivial⟩ ⟨rfl, trivial⟩
              (Chain.cons (Cert.cond rfl rfl (fun h => o_load (ag := false) (sz := 1) 102 (.w h .adr) (by kernel_rfl) (by kernel_rfl) (by kernel_rfl) (by rfl))) ⟨rfl, rfl, trivial⟩ ⟨rfl, trivial⟩
              (Chain.cons (Cert.cond rfl rfl (fun h => o_len_sl Try.underlying47 (.w h))) ⟨rfl, rfl, trivial⟩ trivial
              (Chain.cons (Cert.cond rfl rfl (fun h => o_neq (.w h) (.w h))) ⟨rfl, rfl, rfl, trivial⟩ trivial
              (Chain.cons (Cert.free rfl (o_or2 .t .t)) ⟨rfl, rfl, trivial⟩ trivial
              (Chain.cons (Cert.free rfl (o_move .t (by rfl))) ⟨rfl, trivial⟩ trivial
              (Chain.cons (Cert.cond rfl rfl (fun h => o_move .t (by rfl))) ⟨rfl, rfl, trivial⟩ trivial
              (Chain.cons (Cert.condR rfl rfl (by rfl) (fun h => o_callG1 101 (ahead_c b (refRoomU m) (pushD (refRoomU m) D d.d) []) Try.func30 rfl (by kernel_rfl) (Args.one (.w h)))) ⟨rfl, rfl, trivial⟩ ⟨rfl, trivial⟩
              (Chain.cons (Cert.cond rfl rfl (fun h => o_fieldAddr (off := 1) 102 .is (by kernel_rfl) (by rfl))) ⟨rfl, rfl, trivial⟩ ⟨rfl, trivial⟩
              (Chain.cons (Cert.cond rfl rfl (fun h => o_load (ag := false) (sz := 1) 102 (.w h .adr) (by kernel_rfl) (by kernel_rfl) (by kernel_rfl) (by rfl))) ⟨rfl, rfl, trivial⟩ ⟨rfl, trivial⟩
              (Chain.cons (Cert.cond rfl rfl (fun h => o_len_sl Try.underlying47 (.w h))) ⟨rfl, rfl, trivial⟩ trivial
              (Chain.cons (Cert.cond rfl rfl (fun h => o_neq (.w h) (.w h))) ⟨rfl, rfl, rfl, trivial⟩ trivial
              (Chain.cons (Cert.free rfl (o_or2 .t .t)) ⟨rfl, rfl, trivial⟩ trivial
              Chain.nil)))))))))))))))))))))))))
              (by kernel_rfl) (by rw [hB]; kernel_rfl) ?_
          clear hS; intro a w F hS
          replace hS := hS.norm [(0, _), (5, _), (6, _), (8, _), (9, _), (10, _), (11, _), (12, _), (27, _), (28, _), (29, _), (30, _), (31, _), (32, _), (33, _), (34, _), (35, _), (36, _), (38, _), (39, _), (40, _), (42, _), (43, _), (44, _), (45, _), (46, _), (74, _), (75, _), (76, _), (77, _), (78, _), (79, _), (80, _), (81, _), (82, _), (83, _), (84, _), (85, _), (86, _), (87, _), (88, _), (89, _), (90, _), (91, _), (92, _), (93, _), (94, _), (95, _), (96, _), (97, _), (98, _)] [(0, _), (101, _), (102, _), (103, _), (104, _), (105, _)] ⟨rfl, rfl, rfl, rfl, rfl, rfl, rfl, rfl, rfl, rfl, rfl, rfl, rfl, rfl, rfl, rfl, rfl, rfl, rfl, rfl, rfl, rfl, rfl, rfl, rfl, rfl, rfl, rfl, rfl, rfl, rfl, rfl, rfl, rfl, rfl, rfl, rfl, rfl, rfl, rfl, rfl, rfl, rfl, rfl, rfl, rfl, rfl, rfl, rfl, rfl, rfl, trivial⟩ ⟨rfl, rfl, rfl, rfl, rfl, rfl, trivial⟩
          obtain ⟨F, hS⟩ := hS
          try dsimp only [RS.sub, SF.sub, CF.sub, csub, Anc.sub, stCells, List.map, List.length_cons, List.length_nil, Nat.reduceAdd, List.drop_succ_cons, List.drop_zero, List.drop_nil, List.take_succ_cons, List.take_zero, List.take_nil, List.cons_append, List.nil_append, zCF, ldSF] at hS
          refine then_n ?_
          refine cond_b hS rfl (fun hc4 => ?_) (fun hc4 => ?_)
          · skip
            simp at hc4
          · skip
            refine wp_skip ?_
            refine block_n ?_
            refine then_n ?_
            refine region_seq hS (by kernel_rfl)
                (Chain.cons (Cert.free rfl (o_add .t (.ci (by kernel_rfl)))) ⟨rfl, trivial⟩ trivial
                (Chain.cons (Cert.free rfl (o_move .t (by rfl))) ⟨rfl, trivial⟩ trivial
                Chain.nil))
                (by kernel_rfl) (by rw [hB]; kernel_rfl) ?_
            clear hS; intro a w F hS
            replace hS := hS.norm [(0, _), (5, _), (6, _), (8, _), (9, _), (10, _), (11, _), (12, _), (27, _), (28, _), (29, _), (30, _), (31, _), (32, _), (33, _), (34, _), (35, _), (36, _), (38, _), (39, _), (40, _), (42, _), (43, _), (44, _), (45, _), (46, _), (74, _), (75, _), (76, _), (77, _), (78, _), (79, _), (80, _), (81, _), (82, _), (83, _), (84, _), (85, _), (86, _), (87, _), (88, _), (89, _), (90, _), (91, _), (92, _), (93, _), (94, _), (95, _), (96, _), (97, _), (98, _), (99, _)] [(0, _), (101, _), (102, _), (103, _), (104, _), (105, _)] ⟨rfl, rfl, rfl, rfl, rfl, rfl, rfl, rfl, rfl, rfl, rfl, rfl, rfl, rfl, rfl, rfl, rfl, rfl, rfl, rfl, rfl, rfl, rfl, rfl, rfl, rfl, rfl, rfl, rfl, rfl, rfl, rfl, rfl, rfl, rfl, rfl, rfl, rfl, rfl, rfl, rfl, rfl, rfl, rfl, rfl, rfl, rfl, rfl, rfl, rfl, rfl, rfl, trivial⟩ ⟨rfl, rfl, rfl, rfl, rfl, rfl, trivial⟩
            obtain ⟨F, hS⟩ := hS
            try dsimp only [RS.sub, SF.sub, CF.sub, csub, Anc.sub, stCells, List.map, List.length_cons, List.length_nil, Nat.reduceAdd, List.drop_succ_cons, List.drop_zero, List.drop_nil, List.take_succ_cons, List.take_zero, List.take_nil, List.cons_append, List.nil_append, zCF, ldSF] at hS
            refine then_n ?_
            replace hS := hS.ent (i := 29) (s' := .pv (.int .i64 ((i + 1 : Nat) : Int))) rfl (.int (wrap_succ (by omega)))
            replace hS := hS.norm [(0, _), (5, _), (6, _), (27, _), (28, _), (29, _)] [(0, _), (101, _), (102, _)] ⟨rfl, rfl, rfl, rfl, rfl, rfl, trivial⟩ ⟨rfl, rfl, rfl, trivial⟩
            obtain ⟨F, hS⟩ := hS
            exact ⟨(i + 1, (pushD (refRoomU m) D d.d, [])), F, by dsimp only; omega, hS, by dsimp only; omega⟩
        · exact Bool.noConfusion (hc2.symm.trans hc3)
      · skip
        refine region_seq hS (by kernel_rfl)
            (Chain.cons (Cert.free rfl (o_eql .t (.ci (by kernel_rfl)))) ⟨rfl, trivial⟩ trivial
            (Chain.cons (Cert.free rfl (o_assign .t (by rfl))) ⟨rfl, trivial⟩ trivial
            Chain.nil))
            (by kernel_rfl) (by rw [hB]; kernel_rfl) ?_
        clear hS; intro a w F hS
        replace hS := hS.norm [(0, _), (5, _), (6, _), (8, _), (9, _), (10, _), (11, _), (12, _), (27, _), (28, _), (29, _), (30, _), (31, _), (32, _), (33, _), (34, _), (35, _), (36, _), (37, _)] [(0, _), (101, _), (102, _), (103, _), (104, _), (105, _)] ⟨rfl, rfl, rfl, rfl, rfl, rfl, rfl, rfl, rfl, rfl, rfl, rfl, rfl, rfl, rfl, rfl, rfl, rfl, rfl, trivial⟩ ⟨rfl, rfl, rfl, rfl, rfl, rfl, trivial⟩
        obtain ⟨F, hS⟩ := hS
        try dsimp only [RS.sub, SF.sub, CF.sub, csub, Anc.sub, stCells, List.map, List.length_cons, List.length_nil, Nat.reduceAdd, List.drop_succ_cons, List.drop_zero, List.drop_nil, List.take_succ_cons, List.take_zero, List.take_nil, List.cons_append, List.nil_append, zCF, ldSF] at hS
        refine then_n ?_
        refine cond_b hS rfl (fun hc5 => ?_) (fun hc5 => ?_)
        · skip
          refine wp_seq ?_
          refine region_seq hS (by kernel_rfl)
              (Chain.cons (Cert.free rfl (o_move .t (by rfl))) ⟨rfl, trivial⟩ trivial
              (Chain.cons (Cert.free rfl (o_fieldAddr (off := 1) 103 .is (by kernel_rfl) (by rfl))) ⟨rfl, trivial⟩ ⟨rfl, trivial⟩
              (Chain.cons (Cert.free rfl (o_load (ag := true) (sz := 4) 103 .adr (by kernel_rfl) (by kernel_rfl) (by kernel_rfl) (by rfl))) ⟨rfl, trivial⟩ ⟨rfl, trivial⟩
              (Chain.cons (Cert.free rfl (o_callG1 101 (push_c b (refRoomU m) D U d.d hdo) Try.func22 rfl (by kernel_rfl) (Args.two .t (.pagg .t)))) ⟨rfl, rfl, trivial⟩ ⟨rfl, trivial⟩
              Chain.nil))))
              (by kernel_rfl) (by rw [hB]; kernel_rfl) ?_
          clear hS; intro a w F hS
          replace hS := hS.norm [(0, _), (5, _), (6, _), (8, _), (9, _), (10, _), (11, _), (12, _), (27, _), (28, _), (29, _), (30, _), (31, _), (32, _), (33, _), (34, _), (35, _), (36, _), (37, _), (38, _), (39, _), (40, _)] [(0, _), (101, _), (102, _), (103, _), (104, _), (105, _)] ⟨rfl, rfl, rfl, rfl, rfl, rfl, rfl, rfl, rfl, rfl, rfl, rfl, rfl, rfl, rfl, rfl, rfl, rfl, rfl, rfl, rfl, rfl, trivial⟩ ⟨rfl, rfl, rfl, rfl, rfl, rfl, trivial⟩
          obtain ⟨F, hS⟩ := hS
          try dsimp only [RS.sub, SF.sub, CF.sub, csub, Anc.sub, stCells, List.map, List.length_cons, List.length_nil, Nat.reduceAdd, List.drop_succ_cons, List.drop_zero, List.drop_nil, List.take_succ_cons, List.take_zero, List.take_nil, List.cons_append, List.nil_append, zCF, ldSF] at hS
          refine then_n ?_
          refine region_seq hS (by kernel_rfl)
              (Chain.cons (Cert.free rfl (o_load (ag := true) (sz := 2) 102 .is (by kernel_rfl) (by kernel_rfl) (by kernel_rfl) (by rfl))) ⟨rfl, trivial⟩ ⟨rfl, trivial⟩
              (Chain.cons (Cert.free rfl (o_move .t (by rfl))) ⟨rfl, trivial⟩ trivial
              (Chain.cons (Cert.free rfl (o_fieldAddr (off := 1) 103 .is (by kernel_rfl) (by rfl))) ⟨rfl, trivial⟩ ⟨rfl, trivial⟩
              (Chain.cons (Cert.free rfl (o_load (ag := true) (sz := 4) 103 .adr (by kernel_rfl) (by kernel_rfl) (by kernel_rfl) (by rfl))) ⟨rfl, trivial⟩ ⟨rfl, trivial⟩
              (Chain.cons (Cert.free rfl (o_callP (refPushU_c D U m d.d (by omega)) Try.func23 rfl (by kernel_rfl) (Args.three (.pagg .t) .t (.pagg .t)))) ⟨rfl, rfl, rfl, trivial⟩ trivial
              (Chain.cons (Cert.free rfl (o_storeA (sz := 2) 102 .is (.conv .t .agg) (by kernel_rfl) (by kernel_rfl) (by kernel_rfl))) ⟨rfl, rfl, trivial⟩ ⟨rfl, trivial⟩
              Chain.nil))))))
              (by kernel_rfl) (by rw [hB]; kernel_rfl) ?_
          clear hS; intro a w F hS
          replace hS := hS.norm [(0, _), (5, _), (6, _), (8, _), (9, _), (10, _), (11, _), (12, _), (27, _), (28, _), (29, _), (30, _), (31, _), (32, _), (33, _), (34, _), (35, _), (36, _), (37, _), (38, _), (39, _), (40, _), (42, _), (43, _), (44, _), (45, _), (46, _)] [(0, _), (101, _), (102, _), (103, _), (104, _), (105, _)] ⟨rfl, rfl, rfl, rfl, rfl, rfl, rfl, rfl, rfl, rfl, rfl, rfl, rfl, rfl, rfl, rfl, rfl, rfl, rfl, rfl, rfl, rfl, rfl, rfl, rfl, rfl, rfl, trivial⟩ ⟨rfl, rfl, rfl, rfl, rfl, rfl, trivial⟩
          obtain ⟨F, hS⟩ := hS
          try dsimp only [RS.sub, SF.sub, CF.sub, csub, Anc.sub, stCells, List.map, List.length_cons, List.length_nil, Nat.reduceAdd, List.drop_succ_cons, List.drop_zero, List.drop_nil, List.take_succ_cons, List.take_zero, List.take_nil, List.cons_append, List.nil_append, zCF, ldSF] at hS
          refine block_n ?_
          refine then_n ?_
          refine wp_seq ?_
          refine region_any (by kernel_rfl) hS (by kernel_rfl)
              (Chain.cons (Cert.free rfl (o_move .t (by rfl))) ⟨rfl, trivial⟩ trivial
              (Chain.cons (Cert.free rfl (o_move .t (by rfl))) ⟨rfl, trivial⟩ trivial
              (Chain.cons (Cert.free rfl (o_neq .t .t)) ⟨rfl, rfl, trivial⟩ trivial
              (Chain.cons (Cert.free rfl (o_move .t (by rfl))) ⟨rfl, trivial⟩ trivial
              (Chain.cons (Cert.cond rfl rfl (fun h => o_load (ag := true) (sz := 4) 104 .is (by kernel_rfl) (by kernel_rfl) (by kernel_rfl) (by rfl))) ⟨rfl, rfl, trivial⟩ ⟨rfl, trivial⟩
              (Chain.cons (Cert.cond rfl rfl (fun h => o_load (ag := true) (sz := 4) 105 .is (by kernel_rfl) (by kernel_rfl) (by kernel_rfl) (by rfl))) ⟨rfl, rfl, trivial⟩ ⟨rfl, trivial⟩
              (Chain.cons (Cert.cond rfl rfl (fun h => o_callP (sameDelta_c noD noD) Try.func28 rfl (by kernel_rfl) (Args.two (.pagg (.w h)) (.pagg (.w h))))) ⟨rfl, rfl, rfl, trivial⟩ trivial
              (Chain.cons (Cert.cond rfl rfl (fun h => o_not (.w h))) ⟨rfl, rfl, trivial⟩ trivial
              (Chain.cons (Cert.free rfl (o_or2 .t .t)) ⟨rfl, rfl, trivial⟩ trivial
              (Chain.cons (Cert.free rfl (o_move .t (by rfl))) ⟨rfl, trivial⟩ trivial
              (Chain.cons (Cert.cond rfl rfl (fun h => o_move .t (by rfl))) ⟨rfl, rfl, trivial⟩ trivial
              (Chain.cons (Cert.condR rfl rfl (by rfl) (fun h => o_callG1 101 (len_c b (refRoomU m) (pushD (refRoomU m) D d.d) []) Try.func29 rfl (by kernel_rfl) (Args.one (.w h)))) ⟨rfl, rfl, trivial⟩ ⟨rfl, trivial⟩
              (Chain.cons (Cert.cond rfl rfl (fun h => o_fieldAddr (off := 0) 102 .is (by kernel_rfl) (by rfl))) ⟨rfl, rfl, trivial⟩ ⟨rfl, trivial⟩
              (Chain.cons (Cert.cond rfl rfl (fun h => o_load (ag := false) (sz := 1) 102 (.w h .adr) (by kernel_rfl) (by kernel_rfl) (by kernel_rfl) (by rfl))) ⟨rfl, rfl, trivial⟩ ⟨rfl, trivial⟩
              (Chain.cons (Cert.cond rfl rfl (fun h => o_len_sl Try.underlying47 (.w h))) ⟨rfl, rfl, trivial⟩ trivial
              (Chain.cons (Cert.cond rfl rfl (fun h => o_neq (.w h) (.w h))) ⟨rfl, rfl, rfl, trivial⟩ trivial
              (Chain.cons (Cert.free rfl (o_or2 .t .t)) ⟨rfl, rfl, trivial⟩ trivial
              (Chain.cons (Cert.free rfl (o_move .t (by rfl))) ⟨rfl, trivial⟩ trivial
              (Chain.cons (Cert.cond rfl rfl (fun h => o_move .t (by rfl))) ⟨rfl, rfl, trivial⟩ trivial
              (Chain.cons (Cert.condR rfl rfl (by rfl) (fun h => o_callG1 101 (ahead_c b (refRoomU m) (pushD (refRoomU m) D d.d) []) Try.func30 rfl (by kernel_rfl) (Args.one (.w h)))) ⟨rfl, rfl, trivial⟩ ⟨rfl, trivial⟩
              (Chain.cons (Cert.cond rfl rfl (fun h => o_fieldAddr (off := 1) 102 .is (by kernel_rfl) (by rfl))) ⟨rfl, rfl, trivial⟩ ⟨rfl, trivial⟩
              (Chain.cons (Cert.cond rfl rfl (fun h => o_load (ag := false) (sz := 1) 102 (.w h .adr) (by kernel_rfl) (by kernel_rfl) (by kernel_rfl) (by rfl))) ⟨rfl, rfl, trivial⟩ ⟨rfl, trivial⟩
              (Chain.cons (Cert.cond rfl rfl (fun h => o_len_sl Try.underlying47 (.w h))) ⟨rfl, rfl, trivial⟩ trivial
              (Chain.cons (Cert.cond rfl rfl (fun h => o_neq (.w h) (.w h))) ⟨rfl, rfl, rfl, trivial⟩ trivial
              (Chain.cons (Cert.free rfl (o_or2 .t .t)) ⟨rfl, rfl, trivial⟩ trivial
              Chain.nil)))))))))))))))))))))))))
              (by kernel_rfl) (by rw [hB]; kernel_rfl) ?_
          clear hS; intro a w F hS
          replace hS := hS.norm [(0, _), (5, _), (6, _), (8, _), (9, _), (10, _), (11, _), (12, _), (27, _), (28, _), (29, _), (30, _), (31, _), (32, _), (33, _), (34, _), (35, _), (36, _), (37, _), (38, _), (39, _), (40, _), (42, _), (43, _), (44, _), (45, _), (46, _), (74, _), (75, _), (76, _), (77, _), (78, _), (79, _), (80, _), (81, _), (82, _), (83, _), (84, _), (85, _), (86, _), (87, _), (88, _), (89, _), (90, _), (91, _), (92, _), (93, _), (94, _), (95, _), (96, _), (97, _), (98, _)] [(0, _), (101, _), (102, _), (103, _), (104, _), (105, _)] ⟨rfl, rfl, rfl, rfl, rfl, rfl, rfl, rfl, rfl, rfl, rfl, rfl, rfl, rfl, rfl, rfl, rfl, rfl, rfl, rfl, rfl, rfl, rfl, rfl, rfl, rfl, rfl, rfl, rfl, rfl, rfl, rfl, rfl, rfl, rfl, rfl, rfl, rfl, rfl, rfl, rfl, rfl, rfl, rfl, rfl, rfl, rfl, rfl, rfl, rfl, rfl, rfl, trivial⟩ ⟨rfl, rfl, rfl, rfl, rfl, rfl, trivial⟩
          obtain ⟨F, hS⟩ := hS
          try dsimp only [RS.sub, SF.sub, CF.sub, csub, Anc.sub, stCells, List.map, List.length_cons, List.length_nil, Nat.reduceAdd, List.drop_succ_cons, List.drop_zero, List.drop_nil, List.take_succ_cons, List.take_zero, List.take_nil, List.cons_append, List.nil_append, zCF, ldSF] at hS
          refine then_n ?_
          refine cond_b hS rfl (fun hc6 => ?_) (fun hc6 => ?_)
          · skip
            simp at hc6
          · skip
            refine wp_skip ?_
            refine block_n ?_
            refine then_n ?_
            refine region_seq hS (by kernel_rfl)
                (Chain.cons (Cert.free rfl (o_add .t (.ci (by kernel_rfl)))) ⟨rfl, trivial⟩ trivial
                (Chain.cons (Cert.free rfl (o_move .t (by rfl))) ⟨rfl, trivial⟩ trivial
                Chain.nil))
                (by kernel_rfl) (by rw [hB]; kernel_rfl) ?_
            clear hS; intro a w F hS
            replace hS := hS.norm [(0, _), (5, _), (6, _), (8, _), (9, _), (10, _), (11, _), (12, _), (27, _), (28, _), (29, _), (30, _), (31, _), (32, _), (33, _), (34, _), (35, _), (36, _), (37, _), (38, _), (39, _), (40, _), (42, _), (43, _), (44, _), (45, _), (46, _), (74, _), (75, _), (76, _), (77, _), (78, _), (79, _), (80, _), (81, _), (82, _), (83, _), (84, _), (85, _), (86, _), (87, _), (88, _), (89, _), (90, _), (91, _), (92, _), (93, _), (94, _), (95, _), (96, _), (97, _), (98, _), (99, _)] [(0, _), (101, _), (102, _), (103, _), (104, _), (105, _)] ⟨rfl, rfl, rfl, rfl, rfl, rfl, rfl, rfl, rfl, rfl, rfl, rfl, rfl, rfl, rfl, rfl, rfl, rfl, rfl, rfl, rfl, rfl, rfl, rfl, rfl, rfl, rfl, rfl, rfl, rfl, rfl, rfl, rfl, rfl, rfl, rfl, rfl, rfl, rfl, rfl, rfl, rfl, rfl, rfl, rfl, rfl, rfl, rfl, rfl, rfl, rfl, rfl, rfl, trivial⟩ ⟨rfl, rfl, rfl, rfl, rfl, rfl, trivial⟩
            obtain ⟨F, hS⟩ := hS
            try dsimp only [RS.sub, SF.sub, CF.sub, csub, Anc.sub, stCells, List.map, List.length_cons, List.length_nil, Nat.reduceAdd, List.drop_succ_cons, List.drop_zero, List.drop_nil, List.take_succ_cons, List.take_zero, List.take_nil, List.cons_append, List.nil_append, zCF, ldSF] at hS
            refine then_n ?_
            replace hS := hS.ent (i := 29) (s' := .pv (.int .i64 ((i + 1 : Nat) : Int))) rfl (.int (wrap_succ (by omega)))
            replace hS := hS.norm [(0, _), (5, _), (6, _), (27, _), (28, _), (29, _)] [(0, _), (101, _), (102, _)] ⟨rfl, rfl, rfl, rfl, rfl, rfl, trivial⟩ ⟨rfl, rfl, rfl, trivial⟩
            obtain ⟨F, hS⟩ := hS
            exact ⟨(i + 1, (pushD (refRoomU m) D d.d, [])), F, by dsimp only; omega, hS, by dsimp only; omega⟩
        · skip
          refine wp_seq ?_
          refine wp_seq ?_
          refine region_seq hS (by kernel_rfl)
              (Chain.cons (Cert.free rfl (o_eql .t (.ci (by kernel_rfl)))) ⟨rfl, trivial⟩ trivial
              (Chain.cons (Cert.free rfl (o_assign .t (by rfl))) ⟨rfl, trivial⟩ trivial
              Chain.nil))
              (by kernel_rfl) (by rw [hB]; kernel_rfl) ?_
          clear hS; intro a w F hS
          replace hS := hS.norm [(0, _), (5, _), (6, _), (8, _), (9, _), (10, _), (11, _), (12, _), (27, _), (28, _), (29, _), (30, _), (31, _), (32, _), (33, _), (34, _), (35, _), (36, _), (37, _), (47, _), (48, _)] [(0, _), (101, _), (102, _), (103, _), (104, _), (105, _)] ⟨rfl, rfl, rfl, rfl, rfl, rfl, rfl, rfl, rfl, rfl, rfl, rfl, rfl, rfl, rfl, rfl, rfl, rfl, rfl, rfl, rfl, trivial⟩ ⟨rfl, rfl, rfl, rfl, rfl, rfl, trivial⟩
          obtain ⟨F, hS⟩ := hS
          try dsimp only [RS.sub, SF.sub, CF.sub, csub, Anc.sub, stCells, List.map, List.length_cons, List.length_nil, Nat.reduceAdd, List.drop_succ_cons, List.drop_zero, List.drop_nil, List.take_succ_cons, List.take_zero, List.take_nil, List.cons_append, List.nil_append, zCF, ldSF] at hS
          refine then_n ?_
          refine cond_b hS rfl (fun hc7 => ?_) (fun hc7 => ?_)
          · skip
            refine wp_skip ?_
            refine then_n ?_
            refine cond_b hS rfl (fun hc8 => ?_) (fun hc8 => ?_)
            · skip
              refine wp_seq ?_
              refine region_seq hS (by kernel_rfl)
                  (Chain.cons (Cert.free rfl (o_move .t (by rfl))) ⟨rfl, trivial⟩ trivial
                  (Chain.cons (Cert.free rfl (o_callG1 101 (undo_c b (refRoomU m) D U) Try.func24 rfl (by kernel_rfl) (Args.one .t))) ⟨rfl, trivial⟩ ⟨rfl, trivial⟩
                  (Chain.cons (Cert.free rfl (o_move .t (by rfl))) ⟨rfl, trivial⟩ trivial
                  (Chain.cons (Cert.free rfl (o_extract .t rfl)) ⟨rfl, trivial⟩ trivial
                  (Chain.cons (Cert.free rfl (o_extract .t rfl)) ⟨rfl, trivial⟩ trivial
                  (Chain.cons (Cert.free rfl (o_storeA (sz := 4) 104 .is (.conv .t .agg) (by kernel_rfl) (by kernel_rfl) (by kernel_rfl))) ⟨rfl, rfl, trivial⟩ ⟨rfl, trivial⟩
                  (Chain.cons (Cert.free rfl (o_assign .t (by rfl))) ⟨rfl, trivial⟩ trivial
                  Chain.nil)))))))
                  (by kernel_rfl) (by rw [hB]; kernel_rfl) ?_
              clear hS; intro a w F hS
              replace hS := hS.norm [(0, _), (5, _), (6, _), (8, _), (9, _), (10, _), (11, _), (12, _), (27, _), (28, _), (29, _), (30, _), (31, _), (32, _), (33, _), (34, _), (35, _), (36, _), (37, _), (47, _), (48, _), (50, _), (51, _), (52, _), (53, _), (54, _)] [(0, _), (101, _), (102, _), (103, _), (104, _), (105, _)] ⟨rfl, rfl, rfl, rfl, rfl, rfl, rfl, rfl, rfl, rfl, rfl, rfl, rfl, rfl, rfl, rfl, rfl, rfl, rfl, rfl, rfl, rfl, rfl, rfl, rfl, rfl, trivial⟩ ⟨rfl, rfl, rfl, rfl, rfl, rfl, trivial⟩
              obtain ⟨F, hS⟩ := hS
              try dsimp only [RS.sub, SF.sub, CF.sub, csub, Anc.sub, stCells, List.map, List.length_cons, List.length_nil, Nat.reduceAdd, List.drop_succ_cons, List.drop_zero, List.drop_nil, List.take_succ_cons, List.take_zero, List.take_nil, List.cons_append, List.nil_append, zCF, ldSF] at hS
              refine then_n ?_
              refine region_seq hS (by kernel_rfl)
                  (Chain.cons (Cert.free rfl (o_load (ag := true) (sz := 2) 102 .is (by kernel_rfl) (by kernel_rfl) (by kernel_rfl) (by rfl))) ⟨rfl, trivial⟩ ⟨rfl, trivial⟩
                  (Chain.cons (Cert.free rfl (o_callP (refUndo_c D U (by omega) (by omega)) Try.func25 rfl (by kernel_rfl) (Args.one (.pagg .t)))) ⟨rfl, trivial⟩ trivial
                  (Chain.cons (Cert.free rfl (o_move .t (by rfl))) ⟨rfl, trivial⟩ trivial
                  (Chain.cons (Cert.free rfl (o_extract .t rfl)) ⟨rfl, trivial⟩ trivial
                  (Chain.cons (Cert.free rfl (o_extract .t rfl)) ⟨rfl, trivial⟩ trivial
                  (Chain.cons (Cert.free rfl (o_extract .t rfl)) ⟨rfl, trivial⟩ trivial
                  (Chain.cons (Cert.free rfl (o_storeA (sz := 2) 102 .is (.conv .t .agg) (by kernel_rfl) (by kernel_rfl) (by kernel_rfl))) ⟨rfl, rfl, trivial⟩ ⟨rfl, trivial⟩
                  (Chain.cons (Cert.free rfl (o_storeA (sz := 4) 105 .is (.conv .t .agg) (by kernel_rfl) (by kernel_rfl) (by kernel_rfl))) ⟨rfl, rfl, trivial⟩ ⟨rfl, trivial⟩
                  (Chain.cons (Cert.free rfl (o_assign .t (by rfl))) ⟨rfl, trivial⟩ trivial
                  Chain.nil)))))))))
                  (by kernel_rfl) (by rw [hB]; kernel_rfl) ?_
              clear hS; intro a w F hS
              replace hS := hS.norm [(0, _), (5, _), (6, _), (8, _), (9, _), (10, _), (11, _), (12, _), (27, _), (28, _), (29, _), (30, _), (31, _), (32, _), (33, _), (34, _), (35, _), (36, _), (37, _), (47, _), (48, _), (50, _), (51, _), (52, _), (53, _), (54, _), (55, _), (56, _), (57, _), (58, _), (59, _), (60, _)] [(0, _), (101, _), (102, _), (103, _), (104, _), (105, _)] ⟨rfl, rfl, rfl, rfl, rfl, rfl, rfl, rfl, rfl, rfl, rfl, rfl, rfl, rfl, rfl, rfl, rfl, rfl, rfl, rfl, rfl, rfl, rfl, rfl, rfl, rfl, rfl, rfl, rfl, rfl, rfl, rfl, trivial⟩ ⟨rfl, rfl, rfl, rfl, rfl, rfl, trivial⟩
              obtain ⟨F, hS⟩ := hS
              try dsimp only [RS.sub, SF.sub, CF.sub, csub, Anc.sub, stCells, List.map, List.length_cons, List.length_nil, Nat.reduceAdd, List.drop_succ_cons, List.drop_zero, List.drop_nil, List.take_succ_cons, List.take_zero, List.take_nil, List.cons_append, List.nil_append, zCF, ldSF] at hS
              refine block_n ?_
              refine then_n ?_
              refine wp_seq ?_
              refine region_any (by kernel_rfl) hS (by kernel_rfl)
                  (Chain.cons (Cert.free rfl (o_move .t (by rfl))) ⟨rfl, trivial⟩ trivial
                  (Chain.cons (Cert.free rfl (o_move .t (by rfl))) ⟨rfl, trivial⟩ trivial
                  (Chain.cons (Cert.free rfl (o_neq .t .t)) ⟨rfl, rfl, trivial⟩ trivial
                  (Chain.cons (Cert.free rfl (o_move .t (by rfl))) ⟨rfl, trivial⟩ trivial
                  (Chain.cons (Cert.cond rfl rfl (fun h => o_load (ag := true) (sz := 4) 104 .is (by kernel_rfl) (by kernel_rfl) (by kernel_rfl) (by rfl))) ⟨rfl, rfl, trivial⟩ ⟨rfl, trivial⟩
                  (Chain.cons (Cert.cond rfl rfl (fun h => o_load (ag := true) (sz := 4) 105 .is (by kernel_rfl) (by kernel_rfl) (by kernel_rfl) (by rfl))) ⟨rfl, rfl, trivial⟩ ⟨rfl, trivial⟩
                  (Chain.cons (Cert.cond rfl rfl (fun h => o_callP (sameDelta_c (undoX D) (undoX D)) Try.func28 rfl (by kernel_rfl) (Args.two (.pagg (.w h)) (.pagg (.w h))))) ⟨rfl, rfl, rfl, trivial⟩ trivial
                  (Chain.cons (Cert.cond rfl rfl (fun h => o_not (.w h))) ⟨rfl, rfl, trivial⟩ trivial
                  (Chain.cons (Cert.free rfl (o_or2 .t .t)) ⟨rfl, rfl, trivial⟩ trivial
                  (Chain.cons (Cert.free rfl (o_move .t (by rfl))) ⟨rfl, trivial⟩ trivial
                  (Chain.cons (Cert.cond rfl rfl (fun h => o_move .t (by rfl))) ⟨rfl, rfl, trivial⟩ trivial
                  (Chain.cons (Cert.condR rfl rfl (by rfl) (fun h => o_callG1 101 (len_c b (refRoomU m) (undoL (D, U)).1 (undoL (D, U)).2) Try.func29 rfl (by kernel_rfl) (Args.one (.w h)))) ⟨rfl, rfl, trivial⟩ ⟨rfl, trivial⟩
                  (Chain.cons (Cert.cond rfl rfl (fun h => o_fieldAddr (off := 0) 102 .is (by kernel_rfl) (by rfl))) ⟨rfl, rfl, trivial⟩ ⟨rfl, trivial⟩
                  (Chain.cons (Cert.cond rfl rfl (fun h => o_load (ag := false) (sz := 1) 102 (.w h .adr) (by kernel_rfl) (by kernel_rfl) (by kernel_rfl) (by rfl))) ⟨rfl, rfl, trivial⟩ ⟨rfl, trivial⟩
                  (Chain.cons (Cert.cond rfl rfl (fun h => o_len_sl Try.underlying47 (.w h))) ⟨rfl, rfl, trivial⟩ trivial
                  (Chain.cons (Cert.cond rfl rfl (fun h => o_neq (.w h) (.w h))) ⟨rfl, rfl, rfl, trivial⟩ trivial
                  (Chain.cons (Cert.free rfl (o_or2 .t .t)) ⟨rfl, rfl, trivial⟩ trivial
                  (Chain.cons (Cert.free rfl (o_move .t (by rfl))) ⟨rfl, trivial⟩ trivial
                  (Chain.cons (Cert.cond rfl rfl (fun h => o_move .t (by rfl))) ⟨rfl, rfl, trivial⟩ trivial
                  (Chain.cons (Cert.condR rfl rfl (by rfl) (fun h => o_callG1 101 (ahead_c b (refRoomU m) (undoL (D, U)).1 (undoL (D, U)).2) Try.func30 rfl (by kernel_rfl) (Args.one (.w h)))) ⟨rfl, rfl, trivial⟩ ⟨rfl, trivial⟩
                  (Chain.cons (Cert.cond rfl rfl (fun h => o_fieldAddr (off := 1) 102 .is (by kernel_rfl) (by rfl))) ⟨rfl, rfl, trivial⟩ ⟨rfl, trivial⟩
                  (Chain.cons (Cert.cond rfl rfl (fun h => o_load (ag := false) (sz := 1) 102 (.w h .adr) (by kernel_rfl) (by kernel_rfl) (by kernel_rfl) (by rfl))) ⟨rfl, rfl, trivial⟩ ⟨rfl, trivial⟩
                  (Chain.cons (Cert.cond rfl rfl (fun h => o_len_sl Try.underlying47 (.w h))) ⟨rfl, rfl, trivial⟩ trivial
                  (Chain.cons (Cert.cond rfl rfl (fun h => o_neq (.w h) (.w h))) ⟨rfl, rfl, rfl, trivial⟩ trivial
                  (Chain.cons (Cert.free rfl (o_or2 .t .t)) ⟨rfl, rfl, trivial⟩ trivial
                  Chain.nil)))))))))))))))))))))))))
                  (by kernel_rfl) (by rw [hB]; kernel_rfl) ?_
              clear hS; intro a w F hS
              replace hS := hS.norm [(0, _), (5, _), (6, _), (8, _), (9, _), (10, _), (11, _), (12, _), (27, _), (28, _), (29, _), (30, _), (31, _), (32, _), (33, _), (34, _), (35, _), (36, _), (37, _), (47, _), (48, _), (50, _), (51, _), (52, _), (53, _), (54, _), (55, _), (56, _), (57, _), (58, _), (59, _), (60, _), (74, _), (75, _), (76, _), (77, _), (78, _), (79, _), (80, _), (81, _), (82, _), (83, _), (84, _), (85, _), (86, _), (87, _), (88, _), (89, _), (90, _), (91, _), (92, _), (93, _), (94, _), (95, _), (96, _), (97, _), (98, _)] [(0, _), (101, _), (102, _), (103, _), (104, _), (105, _)] ⟨rfl, rfl, rfl, rfl, rfl, rfl, rfl, rfl, rfl, rfl, rfl, rfl, rfl, rfl, rfl, rfl, rfl, rfl, rfl, rfl, rfl, rfl, rfl, rfl, rfl, rfl, rfl, rfl, rfl, rfl, rfl, rfl, rfl, rfl, rfl, rfl, rfl, rfl, rfl, rfl, rfl, rfl, rfl, rfl, rfl, rfl, rfl, rfl, rfl, rfl, rfl, rfl, rfl, rfl, rfl, rfl, rfl, trivial⟩ ⟨rfl, rfl, rfl, rfl, rfl, rfl, trivial⟩
              obtain ⟨F, hS⟩ := hS
              try dsimp only [RS.sub, SF.sub, CF.sub, csub, Anc.sub, stCells, List.map, List.length_cons, List.length_nil, Nat.reduceAdd, List.drop_succ_cons, List.drop_zero, List.drop_nil, List.take_succ_cons, List.take_zero, List.take_nil, List.cons_append, List.nil_append, zCF, ldSF] at hS
              refine then_n ?_
              refine cond_b hS rfl (fun hc9 => ?_) (fun hc9 => ?_)
              · skip
                simp at hc9
              · skip
                refine wp_skip ?_
                refine block_n ?_
                refine then_n ?_
                refine region_seq hS (by kernel_rfl)
                    (Chain.cons (Cert.free rfl (o_add .t (.ci (by kernel_rfl)))) ⟨rfl, trivial⟩ trivial
                    (Chain.cons (Cert.free rfl (o_move .t (by rfl))) ⟨rfl, trivial⟩ trivial
                    Chain.nil))
                    (by kernel_rfl) (by rw [hB]; kernel_rfl) ?_
                clear hS; intro a w F hS
                replace hS := hS.norm [(0, _), (5, _), (6, _), (8, _), (9, _), (10, _), (11, _), (12, _), (27, _), (28, _), (29, _), (30, _), (31, _), (32, _), (33, _), (34, _), (35, _), (36, _), (37, _), (47, _), (48, _), (50, _), (51, _), (52, _), (53, _), (54, _), (55, _), (56, _), (57, _), (58, _), (59, _), (60, _), (74, _), (75, _), (76, _), (77, _), (78, _), (79, _), (80, _), (81, _), (82, _), (83, _), (84, _), (85, _), (86, _), (87, _), (88, _), (89, _), (90, _), (91, _), (92, _), (93, _), (94, _), (95, _), (96, _), (97, _), (98, _), (99, _)] [(0, _), (101, _), (102, _), (103, _), (104, _), (105, _)] ⟨rfl, rfl, rfl, rfl, rfl, rfl, rfl, rfl, rfl, rfl, rfl, rfl, rfl, rfl, rfl, rfl, rfl, rfl, rfl, rfl, rfl, rfl, rfl, rfl, rfl, rfl, rfl, rfl, rfl, rfl, rfl, rfl, rfl, rfl, rfl, rfl, rfl, rfl, rfl, rfl, rfl, rfl, rfl, rfl, rfl, rfl, rfl, rfl, rfl, rfl, rfl, rfl, rfl, rfl, rfl, rfl, rfl, rfl, trivial⟩ ⟨rfl, rfl, rfl, rfl, rfl, rfl, trivial⟩
                obtain ⟨F, hS⟩ := hS
                try dsimp only [RS.sub, SF.sub, CF.sub, csub, Anc.sub, stCells, List.map, List.length_cons, List.length_nil, Nat.reduceAdd, List.drop_succ_cons, List.drop_zero, List.drop_nil, List.take_succ_cons, List.take_zero, List.take_nil, List.cons_append, List.nil_append, zCF, ldSF] at hS
                refine then_n ?_
                replace hS := hS.ent (i := 29) (s' := .pv (.int .i64 ((i + 1 : Nat) : Int))) rfl (.int (wrap_succ (by omega)))
                replace hS := hS.norm [(0, _), (5, _), (6, _), (27, _), (28, _), (29, _)] [(0, _), (101, _), (102, _)] ⟨rfl, rfl, rfl, rfl, rfl, rfl, trivial⟩ ⟨rfl, rfl, rfl, trivial⟩
                obtain ⟨F, hS⟩ := hS
                exact ⟨(i + 1, undoL (D, U)), F, by dsimp only; omega, hS, by dsimp only; omega⟩
            · exact Bool.noConfusion (hc7.symm.trans hc8)
          · skip
            refine region_seq hS (by kernel_rfl)
                (Chain.cons (Cert.free rfl (o_eql .t (.ci (by kernel_rfl)))) ⟨rfl, trivial⟩ trivial
                (Chain.cons (Cert.free rfl (o_assign .t (by rfl))) ⟨rfl, trivial⟩ trivial
                Chain.nil))
                (by kernel_rfl) (by rw [hB]; kernel_rfl) ?_
            clear hS; intro a w F hS
            replace hS := hS.norm [(0, _), (5, _), (6, _), (8, _), (9, _), (10, _), (11, _), (12, _), (27, _), (28, _), (29, _), (30, _), (31, _), (32, _), (33, _), (34, _), (35, _), (36, _), (37, _), (47, _), (48, _), (49, _)] [(0, _), (101, _), (102, _), (103, _), (104, _), (105, _)] ⟨rfl, rfl, rfl, rfl, rfl, rfl, rfl, rfl, rfl, rfl, rfl, rfl, rfl, rfl, rfl, rfl, rfl, rfl, rfl, rfl, rfl, rfl, trivial⟩ ⟨rfl, rfl, rfl, rfl, rfl, rfl, trivial⟩
            obtain ⟨F, hS⟩ := hS
            try dsimp only [RS.sub, SF.sub, CF.sub, csub, Anc.sub, stCells, List.map, List.length_cons, List.length_nil, Nat.reduceAdd, List.drop_succ_cons, List.drop_zero, List.drop_nil, List.take_succ_cons, List.take_zero, List.take_nil, List.cons_append, List.nil_append, zCF, ldSF] at hS
            refine then_n ?_
            refine cond_b hS rfl (fun hc10 => ?_) (fun hc10 => ?_)
            · skip
              refine wp_seq ?_
              refine region_seq hS (by kernel_rfl)
                  (Chain.cons (Cert.free rfl (o_move .t (by rfl))) ⟨rfl, trivial⟩ trivial
                  (Chain.cons (Cert.free rfl (o_callG1 101 (undo_c b (refRoomU m) D U) Try.func24 rfl (by kernel_rfl) (Args.one .t))) ⟨rfl, trivial⟩ ⟨rfl, trivial⟩
                  (Chain.cons (Cert.free rfl (o_move .t (by rfl))) ⟨rfl, trivial⟩ trivial
                  (Chain.cons (Cert.free rfl (o_extract .t rfl)) ⟨rfl, trivial⟩ trivial
                  (Chain.cons (Cert.free rfl (o_extract .t rfl)) ⟨rfl, trivial⟩ trivial
                  (Chain.cons (Cert.free rfl (o_storeA (sz := 4) 104 .is (.conv .t .agg) (by kernel_rfl) (by kernel_rfl) (by kernel_rfl))) ⟨rfl, rfl, trivial⟩ ⟨rfl, trivial⟩
                  (Chain.cons (Cert.free rfl (o_assign .t (by rfl))) ⟨rfl, trivial⟩ trivial
                  Chain.nil)))))))
                  (by kernel_rfl) (by rw [hB]; kernel_rfl) ?_
              clear hS; intro a w F hS
              replace hS := hS.norm [(0, _), (5, _), (6, _), (8, _), (9, _), (10, _), (11, _), (12, _), (27, _), (28, _), (29, _), (30, _), (31, _), (32, _), (33, _), (34, _), (35, _), (36, _), (37, _), (47, _), (48, _), (49, _), (50, _), (51, _), (52, _), (53, _), (54, _)] [(0, _), (101, _), (102, _), (103, _), (104, _), (105, _)] ⟨rfl, rfl, rfl, rfl, rfl, rfl, rfl, rfl, rfl, rfl, rfl, rfl, rfl, rfl, rfl, rfl, rfl, rfl, rfl, rfl, rfl, rfl, rfl, rfl, rfl, rfl, rfl, trivial⟩ ⟨rfl, rfl, rfl, rfl, rfl, rfl, trivial⟩
              obtain ⟨F, hS⟩ := hS
              try dsimp only [RS.sub, SF.sub, CF.sub, csub, Anc.sub, stCells, List.map, List.length_cons, List.length_nil, Nat.reduceAdd, List.drop_succ_cons, List.drop_zero, List.drop_nil, List.take_succ_cons, List.take_zero, List.take_nil, List.cons_append, List.nil_append, zCF, ldSF] at hS
              refine then_n ?_
              refine region_seq hS (by kernel_rfl)
                  (Chain.cons (Cert.free rfl (o_load (ag := true) (sz := 2) 102 .is (by kernel_rfl) (by kernel_rfl) (by kernel_rfl) (by rfl))) ⟨rfl, trivial⟩ ⟨rfl, trivial⟩
                  (Chain.cons (Cert.free rfl (o_callP (refUndo_c D U (by omega) (by omega)) Try.func25 rfl (by kernel_rfl) (Args.one (.pagg .t)))) ⟨rfl, trivial⟩ trivial
                  (Chain.cons (Cert.free rfl (o_move .t (by rfl))) ⟨rfl, trivial⟩ trivial
                  (Chain.cons (Cert.free rfl (o_extract .t rfl)) ⟨rfl, trivial⟩ trivial
                  (Chain.cons (Cert.free rfl (o_extract .t rfl)) ⟨rfl, trivial⟩ trivial
                  (Chain.cons (Cert.free rfl (o_extract .t rfl)) ⟨rfl, trivial⟩ trivial
                  (Chain.cons (Cert.free rfl (o_storeA (sz := 2) 102 .is (.conv .t .agg) (by kernel_rfl) (by kernel_rfl) (by kernel_rfl))) ⟨rfl, rfl, trivial⟩ ⟨rfl, trivial⟩
                  (Chain.cons (Cert.free rfl (o_storeA (sz := 4) 105 .is (.conv .t .agg) (by kernel_rfl) (by kernel_rfl) (by kernel_rfl))) ⟨rfl, rfl, trivial⟩ ⟨rfl, trivial⟩
                  (Chain.cons (Cert.free rfl (o_assign .t (by rfl))) ⟨rfl, trivial⟩ trivial
                  Chain.nil)))))))))
                  (by kernel_rfl) (by rw [hB]; kernel_rfl) ?_
              clear hS; intro a w F hS
              replace hS := hS.norm [(0, _), (5, _), (6, _), (8, _), (9, _), (10, _), (11, _), (12, _), (27, _), (28, _), (29, _), (30, _), (31, _), (32, _), (33, _), (34, _), (35, _), (36, _), (37, _), (47, _), (48, _), (49, _), (50, _), (51, _), (52, _), (53, _), (54, _), (55, _), (56, _), (57, _), (58, _), (59, _), (60, _)] [(0, _), (101, _), (102, _), (103, _), (104, _), (105, _)] ⟨rfl, rfl, rfl, rfl, rfl, rfl, rfl, rfl, rfl, rfl, rfl, rfl, rfl, rfl, rfl, rfl, rfl, rfl, rfl, rfl, rfl, rfl, rfl, rfl, rfl, rfl, rfl, rfl, rfl, rfl, rfl, rfl, rfl, trivial⟩ ⟨rfl, rfl, rfl, rfl, rfl, rfl, trivial⟩
              obtain ⟨F, hS⟩ := hS
              try dsimp only [RS.sub, SF.sub, CF.sub, csub, Anc.sub, stCells, List.map, List.length_cons, List.length_nil, Nat.reduceAdd, List.drop_succ_cons, List.drop_zero, List.drop_nil, List.take_succ_cons, List.take_zero, List.take_nil, List.cons_append, List.nil_append, zCF, ldSF] at hS
              refine block_n ?_
              refine then_n ?_
              refine wp_seq ?_
              refine region_any (by kernel_rfl) hS (by kernel_rfl)
                  (Chain.cons (Cert.free rfl (o_move .t (by rfl))) ⟨rfl, trivial⟩ trivial
                  (Chain.cons (Cert.free rfl (o_move .t (by rfl))) ⟨rfl, trivial⟩ trivial
                  (Chain.cons (Cert.free rfl (o_neq .t .t)) ⟨rfl, rfl, trivial⟩ trivial
                  (Chain.cons (Cert.free rfl (o_move .t (by rfl))) ⟨rfl, trivial⟩ trivial
                  (Chain.cons (Cert.cond rfl rfl (fun h => o_load (ag := true) (sz := 4) 104 .is (by kernel_rfl) (by kernel_rfl) (by kernel_rfl) (by rfl))) ⟨rfl, rfl, trivial⟩ ⟨rfl, trivial⟩
                  (Chain.cons (Cert.cond rfl rfl (fun h => o_load (ag := true) (sz := 4) 105 .is (by kernel_rfl) (by kernel_rfl) (by kernel_rfl) (by rfl))) ⟨rfl, rfl, trivial⟩ ⟨rfl, trivial⟩
                  (Chain.cons (Cert.cond rfl rfl (fun h => o_callP (sameDelta_c (undoX D) (undoX D)) Try.func28 rfl (by kernel_rfl) (Args.two (.pagg (.w h)) (.pagg (.w h))))) ⟨rfl, rfl, rfl, trivial⟩ trivial
                  (Chain.cons (Cert.cond rfl rfl (fun h => o_not (.w h))) ⟨rfl, rfl, trivial⟩ trivial
                  (Chain.cons (Cert.free rfl (o_or2 .t .t)) ⟨rfl, rfl, trivial⟩ trivial
                  (Chain.cons (Cert.free rfl (o_move .t (by rfl))) ⟨rfl, trivial⟩ trivial
                  (Chain.cons (Cert.cond rfl rfl (fun h => o_move .t (by rfl))) ⟨rfl, rfl, trivial⟩ trivial
                  (Chain.cons (Cert.condR rfl rfl (by rfl) (fun h => o_callG1 101 (len_c b (refRoomU m) (undoL (D, U)).1 (undoL (D, U)).2) Try.func29 rfl (by kernel_rfl) (Args.one (.w h)))) ⟨rfl, rfl, trivial⟩ ⟨rfl, trivial⟩
                  (Chain.cons (Cert.cond rfl rfl (fun h => o_fieldAddr (off := 0) 102 .is (by kernel_rfl) (by rfl))) ⟨rfl, rfl, trivial⟩ ⟨rfl, trivial⟩
                  (Chain.cons (Cert.cond rfl rfl (fun h => o_load (ag := false) (sz := 1) 102 (.w h .adr) (by kernel_rfl) (by kernel_rfl) (by kernel_rfl) (by rfl))) ⟨rfl, rfl, trivial⟩ ⟨rfl, trivial⟩
                  (Chain.cons (Cert.cond rfl rfl (fun h => o_len_sl Try.underlying47 (.w h))) ⟨rfl, rfl, trivial⟩ trivial
                  (Chain.cons (Cert.cond rfl rfl (fun h => o_neq (.w h) (.w h))) ⟨rfl, rfl, rfl, trivial⟩ trivial
                  (Chain.cons (Cert.free rfl (o_or2 .t .t)) ⟨rfl, rfl, trivial⟩ trivial
                  (Chain.cons (Cert.free rfl (o_move .t (by rfl))) ⟨rfl, trivial⟩ trivial
                  (Chain.cons (Cert.cond rfl rfl (fun h => o_move .t (by rfl))) ⟨rfl, rfl, trivial⟩ trivial
                  (Chain.cons (Cert.condR rfl rfl (by rfl) (fun h => o_callG1 101 (ahead_c b (refRoomU m) (undoL (D, U)).1 (undoL (D, U)).2) Try.func30 rfl (by kernel_rfl) (Args.one (.w h)))) ⟨rfl, rfl, trivial⟩ ⟨rfl, trivial⟩
                  (Chain.cons (Cert.cond rfl rfl (fun h => o_fieldAddr (off := 1) 102 .is (by kernel_rfl) (by rfl))) ⟨rfl, rfl, trivial⟩ ⟨rfl, trivial⟩
                  (Chain.cons (Cert.cond rfl rfl (fun h => o_load (ag := false) (sz := 1) 102 (.w h .adr) (by kernel_rfl) (by kernel_rfl) (by kernel_rfl) (by rfl))) ⟨rfl, rfl, trivial⟩ ⟨rfl, trivial⟩
                  (Chain.cons (Cert.cond rfl rfl (fun h => o_len_sl Try.underlying47 (.w h))) ⟨rfl, rfl, trivial⟩ trivial
                  (Chain.cons (Cert.cond rfl rfl (fun h => o_neq (.w h) (.w h))) ⟨rfl, rfl, rfl, trivial⟩ trivial
                  (Chain.cons (Cert.free rfl (o_or2 .t .t)) ⟨rfl, rfl, trivial⟩ trivial
                  Chain.nil)))))))))))))))))))))))))
                  (by kernel_rfl) (by rw [hB]; kernel_rfl) ?_
              clear hS; intro a w F hS
              replace hS := hS.norm [(0, _), (5, _), (6, _), (8, _), (9, _), (10, _), (11, _), (12, _), (27, _), (28, _), (29, _), (30, _), (31, _), (32, _), (33, _), (34, _), (35, _), (36, _), (37, _), (47, _), (48, _), (49, _), (50, _), (51, _), (52, _), (53, _), (54, _), (55, _), (56, _), (57, _), (58, _), (59, _), (60, _), (74, _), (75, _), (76, _), (77, _), (78, _), (79, _), (80, _), (81, _), (82, _), (83, _), (84, _), (85, _), (86, _), (87, _), (88, _), (89, _), (90, _), (91, _), (92, _), (93, _), (94, _), (95, _), (96, _), (97, _), (98, _)] [(0, _), (101, _), (102, _), (103, _), (104, _), (105, _)] ⟨rfl, rfl, rfl, rfl, rfl, rfl, rfl, rfl, rfl, rfl, rfl, rfl, rfl, rfl, rfl, rfl, rfl, rfl, rfl, rfl, rfl, rfl, rfl, rfl, rfl, rfl, rfl, rfl, rfl, rfl, rfl, rfl, rfl, rfl, rfl, rfl, rfl, rfl, rfl, rfl, rfl, rfl, rfl, rfl, rfl, rfl, rfl, rfl, rfl, rfl, rfl, rfl, rfl, rfl, rfl, rfl, rfl, rfl, trivial⟩ ⟨rfl, rfl, rfl, rfl, rfl, rfl, trivial⟩
              obtain ⟨F, hS⟩ := hS
              try dsimp only [RS.sub, SF.sub, CF.sub, csub, Anc.sub, stCells, List.map, List.length_cons, List.length_nil, Nat.reduceAdd, List.drop_succ_cons, List.drop_zero, List.drop_nil, List.take_succ_cons, List.take_zero, List.take_nil, List.cons_append, List.nil_append, zCF, ldSF] at hS
              refine then_n ?_
              refine cond_b hS rfl (fun hc11 => ?_) (fun hc11 => ?_)
              · skip
                simp at hc11
              · skip
                refine wp_skip ?_
                refine block_n ?_
                refine then_n ?_
                refine region_seq hS (by kernel_rfl)
                    (Chain.cons (Cert.free rfl (o_add .t (.ci (by kernel_rfl)))) ⟨rfl, trivial⟩ trivial
                    (Chain.cons (Cert.free rfl (o_move .t (by rfl))) ⟨rfl, trivial⟩ trivial
                    Chain.nil))
                    (by kernel_rfl) (by rw [hB]; kernel_rfl) ?_
                clear hS; intro a w F hS
                replace hS := hS.norm [(0, _), (5, _), (6, _), (8, _), (9, _), (10, _), (11, _), (12, _), (27, _), (28, _), (29, _), (30, _), (31, _), (32, _), (33, _), (34, _), (35, _), (36, _), (37, _), (47, _), (48, _), (49, _), (50, _), (51, _), (52, _), (53, _), (54, _), (55, _), (56, _), (57, _), (58, _), (59, _), (60, _), (74, _), (75, _), (76, _), (77, _), (78, _), (79, _), (80, _), (81, _), (82, _), (83, _), (84, _), (85, _), (86, _), (87, _), (88, _), (89, _), (90, _), (91, _), (92, _), (93, _), (94, _), (95, _), (96, _), (97, _), (98, _), (99, _)] [(0, _), (101, _), (102, _), (103, _), (104, _), (105, _)] ⟨rfl, rfl, rfl, rfl, rfl, rfl, rfl, rfl, rfl, rfl, rfl, rfl, rfl, rfl, rfl, rfl, rfl, rfl, rfl, rfl, rfl, rfl, rfl, rfl, rfl, rfl, rfl, rfl, rfl, rfl, rfl, rfl, rfl, rfl, rfl, rfl, rfl, rfl, rfl, rfl, rfl, rfl, rfl, rfl, rfl, rfl, rfl, rfl, rfl, rfl, rfl, rfl, rfl, rfl, rfl, rfl, rfl, rfl, rfl, trivial⟩ ⟨rfl, rfl, rfl, rfl, rfl, rfl, trivial⟩
                obtain ⟨F, hS⟩ := hS
                try dsimp only [RS.sub, SF.sub, CF.sub, csub, Anc.sub, stCells, List.map, List.length_cons, List.length_nil, Nat.reduceAdd, List.drop_succ_cons, List.drop_zero, List.drop_nil, List.take_succ_cons, List.take_zero, List.take_nil, List.cons_append, List.nil_append, zCF, ldSF] at hS
                refine then_n ?_
                replace hS := hS.ent (i := 29) (s' := .pv (.int .i64 ((i + 1 : Nat) : Int))) rfl (.int (wrap_succ (by omega)))
                replace hS := hS.norm [(0, _), (5, _), (6, _), (27, _), (28, _), (29, _)] [(0, _), (101, _), (102, _)] ⟨rfl, rfl, rfl, rfl, rfl, rfl, trivial⟩ ⟨rfl, rfl, rfl, trivial⟩
                obtain ⟨F, hS⟩ := hS
                exact ⟨(i + 1, undoL (D, U)), F, by dsimp only; omega, hS, by dsimp only; omega⟩
            · skip
              refine wp_seq ?_
              refine region_seq hS (by kernel_rfl)
                  (Chain.cons (Cert.free rfl (o_eql .t (.ci (by kernel_rfl)))) ⟨rfl, trivial⟩ trivial
                  (Chain.cons (Cert.free rfl (o_assign .t (by rfl))) ⟨rfl, trivial⟩ trivial
                  Chain.nil))
                  (by kernel_rfl) (by rw [hB]; kernel_rfl) ?_
              clear hS; intro a w F hS
              replace hS := hS.norm [(0, _), (5, _), (6, _), (8, _), (9, _), (10, _), (11, _), (12, _), (27, _), (28, _), (29, _), (30, _), (31, _), (32, _), (33, _), (34, _), (35, _), (36, _), (37, _), (47, _), (48, _), (49, _), (61, _), (62, _)] [(0, _), (101, _), (102, _), (103, _), (104, _), (105, _)] ⟨rfl, rfl, rfl, rfl, rfl, rfl, rfl, rfl, rfl, rfl, rfl, rfl, rfl, rfl, rfl, rfl, rfl, rfl, rfl, rfl, rfl, rfl, rfl, rfl, trivial⟩ ⟨rfl, rfl, rfl, rfl, rfl, rfl, trivial⟩
              obtain ⟨F, hS⟩ := hS
              try dsimp only [RS.sub, SF.sub, CF.sub, csub, Anc.sub, stCells, List.map, List.length_cons, List.length_nil, Nat.reduceAdd, List.drop_succ_cons, List.drop_zero, List.drop_nil, List.take_succ_cons, List.take_zero, List.take_nil, List.cons_append, List.nil_append, zCF, ldSF] at hS
              refine then_n ?_
              refine cond_b hS rfl (fun hc12 => ?_) (fun hc12 => ?_)
              · skip
                refine wp_seq ?_
                refine region_seq hS (by kernel_rfl)
                    (Chain.cons (Cert.free rfl (o_move .t (by rfl))) ⟨rfl, trivial⟩ trivial
                    (Chain.cons (Cert.free rfl (o_callG1 101 (redo_c b (refRoomU m) D U) Try.func26 rfl (by kernel_rfl) (Args.one .t))) ⟨rfl, trivial⟩ ⟨rfl, trivial⟩
                    (Chain.cons (Cert.free rfl (o_move .t (by rfl))) ⟨rfl, trivial⟩ trivial
                    (Chain.cons (Cert.free rfl (o_extract .t rfl)) ⟨rfl, trivial⟩ trivial
                    (Chain.cons (Cert.free rfl (o_extract .t rfl)) ⟨rfl, trivial⟩ trivial
                    (Chain.cons (Cert.free rfl (o_storeA (sz := 4) 104 .is (.conv .t .agg) (by kernel_rfl) (by kernel_rfl) (by kernel_rfl))) ⟨rfl, rfl, trivial⟩ ⟨rfl, trivial⟩
                    (Chain.cons (Cert.free rfl (o_assign .t (by rfl))) ⟨rfl, trivial⟩ trivial
                    Chain.nil)))))))
                    (by kernel_rfl) (by rw [hB]; kernel_rfl) ?_
                clear hS; intro a w F hS
                replace hS := hS.norm [(0, _), (5, _), (6, _), (8, _), (9, _), (10, _), (11, _), (12, _), (27, _), (28, _), (29, _), (30, _), (31, _), (32, _), (33, _), (34, _), (35, _), (36, _), (37, _), (47, _), (48, _), (49, _), (61, _), (62, _), (63, _), (64, _), (65, _), (66, _), (67, _)] [(0, _), (101, _), (102, _), (103, _), (104, _), (105, _)] ⟨rfl, rfl, rfl, rfl, rfl, rfl, rfl, rfl, rfl, rfl, rfl, rfl, rfl, rfl, rfl, rfl, rfl, rfl, rfl, rfl, rfl, rfl, rfl, rfl, rfl, rfl, rfl, rfl, rfl, trivial⟩ ⟨rfl, rfl, rfl, rfl, rfl, rfl, trivial⟩
                obtain ⟨F, hS⟩ := hS
                try dsimp only [RS.sub, SF.sub, CF.sub, csub, Anc.sub, stCells, List.map, List.length_cons, List.length_nil, Nat.reduceAdd, List.drop_succ_cons, List.drop_zero, List.drop_nil, List.take_succ_cons, List.take_zero, List.take_nil, List.cons_append, List.nil_append, zCF, ldSF] at hS
                refine then_n ?_
                refine region_seq hS (by kernel_rfl)
                    (Chain.cons (Cert.free rfl (o_load (ag := true) (sz := 2) 102 .is (by kernel_rfl) (by kernel_rfl) (by kernel_rfl) (by rfl))) ⟨rfl, trivial⟩ ⟨rfl, trivial⟩
                    (Chain.cons (Cert.free rfl (o_callP (refRedo_c D U (by omega) (by omega)) Try.func27 rfl (by kernel_rfl) (Args.one (.pagg .t)))) ⟨rfl, trivial⟩ trivial
                    (Chain.cons (Cert.free rfl (o_move .t (by rfl))) ⟨rfl, trivial⟩ trivial
                    (Chain.cons (Cert.free rfl (o_extract .t rfl)) ⟨rfl, trivial⟩ trivial
                    (Chain.cons (Cert.free rfl (o_extract .t rfl)) ⟨rfl, trivial⟩ trivial
                    (Chain.cons (Cert.free rfl (o_extract .t rfl)) ⟨rfl, trivial⟩ trivial
                    (Chain.cons (Cert.free rfl (o_storeA (sz := 2) 102 .is (.conv .t .agg) (by kernel_rfl) (by kernel_rfl) (by kernel_rfl))) ⟨rfl, rfl, trivial⟩ ⟨rfl, trivial⟩
                    (Chain.cons (Cert.free rfl (o_storeA (sz := 4) 105 .is (.conv .t .agg) (by kernel_rfl) (by kernel_rfl) (by kernel_rfl))) ⟨rfl, rfl, trivial⟩ ⟨rfl, trivial⟩
                    (Chain.cons (Cert.free rfl (o_assign .t (by rfl))) ⟨rfl, trivial⟩ trivial
                    Chain.nil)))))))))
                    (by kernel_rfl) (by rw [hB]; kernel_rfl) ?_
                clear hS; intro a w F hS
                replace hS := hS.norm [(0, _), (5, _), (6, _), (8, _), (9, _), (10, _), (11, _), (12, _), (27, _), (28, _), (29, _), (30, _), (31, _), (32, _), (33, _), (34, _), (35, _), (36, _), (37, _), (47, _), (48, _), (49, _), (61, _), (62, _), (63, _), (64, _), (65, _), (66, _), (67, _), (68, _), (69, _), (70, _), (71, _), (72, _), (73, _)] [(0, _), (101, _), (102, _), (103, _), (104, _), (105, _)] ⟨rfl, rfl, rfl, rfl, rfl, rfl, rfl, rfl, rfl, rfl, rfl, rfl, rfl, rfl, rfl, rfl, rfl, rfl, rfl, rfl, rfl, rfl, rfl, rfl, rfl, rfl, rfl, rfl, rfl, rfl, rfl, rfl, rfl, rfl, rfl, trivial⟩ ⟨rfl, rfl, rfl, rfl, rfl, rfl, trivial⟩
                obtain ⟨F, hS⟩ := hS
                try dsimp only [RS.sub, SF.sub, CF.sub, csub, Anc.sub, stCells, List.map, List.length_cons, List.length_nil, Nat.reduceAdd, List.drop_succ_cons, List.drop_zero, List.drop_nil, List.take_succ_cons, List.take_zero, List.take_nil, List.cons_append, List.nil_append, zCF, ldSF] at hS
                refine block_n ?_
                refine then_n ?_
                refine wp_seq ?_
                refine region_any (by kernel_rfl) hS (by kernel_rfl)
                    (Chain.cons (Cert.free rfl (o_move .t (by rfl))) ⟨rfl, trivial⟩ trivial
                    (Chain.cons (Cert.free rfl (o_move .t (by rfl))) ⟨rfl, trivial⟩ trivial
                    (Chain.cons (Cert.free rfl (o_neq .t .t)) ⟨rfl, rfl, trivial⟩ trivial
                    (Chain.cons (Cert.free rfl (o_move .t (by rfl))) ⟨rfl, trivial⟩ trivial
                    (Chain.cons (Cert.cond rfl rfl (fun h => o_load (ag := true) (sz := 4) 104 .is (by kernel_rfl) (by kernel_rfl) (by kernel_rfl) (by rfl))) ⟨rfl, rfl, trivial⟩ ⟨rfl, trivial⟩
                    (Chain.cons (Cert.cond rfl rfl (fun h => o_load (ag := true) (sz := 4) 105 .is (by kernel_rfl) (by kernel_rfl) (by kernel_rfl) (by rfl))) ⟨rfl, rfl, trivial⟩ ⟨rfl, trivial⟩
                    (Chain.cons (Cert.cond rfl rfl (fun h => o_callP (sameDelta_c (redoX U) (redoX U)) Try.func28 rfl (by kernel_rfl) (Args.two (.pagg (.w h)) (.pagg (.w h))))) ⟨rfl, rfl, rfl, trivial⟩ trivial
                    (Chain.cons (Cert.cond rfl rfl (fun h => o_not (.w h))) ⟨rfl, rfl, trivial⟩ trivial
                    (Chain.cons (Cert.free rfl (o_or2 .t .t)) ⟨rfl, rfl, trivial⟩ trivial
                    (Chain.cons (Cert.free rfl (o_move .t (by rfl))) ⟨rfl, trivial⟩ trivial
                    (Chain.cons (Cert.cond rfl rfl (fun h => o_move .t (by rfl))) ⟨rfl, rfl, trivial⟩ trivial
                    (Chain.cons (Cert.condR rfl rfl (by rfl) (fun h => o_callG1 101 (len_c b (refRoomU m) (redoL (D, U)).1 (redoL (D, U)).2) Try.func29 rfl (by kernel_rfl) (Args.one (.w h)))) ⟨rfl, rfl, trivial⟩ ⟨rfl, trivial⟩
                    (Chain.cons (Cert.cond rfl rfl (fun h => o_fieldAddr (off := 0) 102 .is (by kernel_rfl) (by rfl))) ⟨rfl, rfl, trivial⟩ ⟨rfl, trivial⟩
                    (Chain.cons (Cert.cond rfl rfl (fun h => o_load (ag := false) (sz := 1) 102 (.w h .adr) (by kernel_rfl) (by kernel_rfl) (by kernel_rfl) (by rfl))) ⟨rfl, rfl, trivial⟩ ⟨rfl, trivial⟩
                    (Chain.cons (Cert.cond rfl rfl (fun h => o_len_sl Try.underlying47 (.w h))) ⟨rfl, rfl, trivial⟩ trivial
                    (Chain.cons (Cert.cond rfl rfl (fun h => o_neq (.w h) (.w h))) ⟨rfl, rfl, rfl, trivial⟩ trivial
                    (Chain.cons (Cert.free rfl (o_or2 .t .t)) ⟨rfl, rfl, trivial⟩ trivial
                    (Chain.cons (Cert.free rfl (o_move .t (by rfl))) ⟨rfl, trivial⟩ trivial
                    (Chain.cons (Cert.cond rfl rfl (fun h => o_move .t (by rfl))) ⟨rfl, rfl, trivial⟩ trivial
                    (Chain.cons (Cert.condR rfl rfl (by rfl) (fun h => o_callG1 101 (ahead_c b (refRoomU m) (redoL (D, U)).1 (redoL (D, U)).2) Try.func30 rfl (by kernel_rfl) (Args.one (.w h)))) ⟨rfl, rfl, trivial⟩ ⟨rfl, trivial⟩
                    (Chain.cons (Cert.cond rfl rfl (fun h => o_fieldAddr (off := 1) 102 .is (by kernel_rfl) (by rfl))) ⟨rfl, rfl, trivial⟩ ⟨rfl, trivial⟩
                    (Chain.cons (Cert.cond rfl rfl (fun h => o_load (ag := false) (sz := 1) 102 (.w h .adr) (by kernel_rfl) (by kernel_rfl) (by kernel_rfl) (by rfl))) ⟨rfl, rfl, trivial⟩ ⟨rfl, trivial⟩
                    (Chain.cons (Cert.cond rfl rfl (fun h => o_len_sl Try.underlying47 (.w h))) ⟨rfl, rfl, trivial⟩ trivial
                    (Chain.cons (Cert.cond rfl rfl (fun h => o_neq (.w h) (.w h))) ⟨rfl, rfl, rfl, trivial⟩ trivial
                    (Chain.cons (Cert.free rfl (o_or2 .t .t)) ⟨rfl, rfl, trivial⟩ trivial
                    Chain.nil)))))))))))))))))))))))))
                    (by kernel_rfl) (by rw [hB]; kernel_rfl) ?_
                clear hS; intro a w F hS
                replace hS := hS.norm [(0, _), (5, _), (6, _), (8, _), (9, _), (10, _), (11, _), (12, _), (27, _), (28, _), (29, _), (30, _), (31, _), (32, _), (33, _), (34, _), (35, _), (36, _), (37, _), (47, _), (48, _), (49, _), (61, _), (62, _), (63, _), (64, _), (65, _), (66, _), (67, _), (68, _), (69, _), (70, _), (71, _), (72, _), (73, _), (74, _), (75, _), (76, _), (77, _), (78, _), (79, _), (80, _), (81, _), (82, _), (83, _), (84, _), (85, _), (86, _), (87, _), (88, _), (89, _), (90, _), (91, _), (92, _), (93, _), (94, _), (95, _), (96, _), (97, _), (98, _)] [(0, _), (101, _), (102, _), (103, _), (104, _), (105, _)] ⟨rfl, rfl, rfl, rfl, rfl, rfl, rfl, rfl, rfl, rfl, rfl, rfl, rfl, rfl, rfl, rfl, rfl, rfl, rfl, rfl, rfl, rfl, rfl, rfl, rfl, rfl, rfl, rfl, rfl, rfl, rfl, rfl, rfl, rfl, rfl, rfl, rfl, rfl, rfl, rfl, rfl, rfl, rfl, rfl, rfl, rfl, rfl, rfl, rfl, rfl, rfl, rfl, rfl, rfl, rfl, rfl, rfl, rfl, rfl, rfl, trivial⟩ ⟨rfl, rfl, rfl, rfl, rfl, rfl, trivial⟩
                obtain ⟨F, hS⟩ := hS
                try dsimp only [RS.sub, SF.sub, CF.sub, csub, Anc.sub, stCells, List.map, List.length_cons, List.length_nil, Nat.reduceAdd, List.drop_succ_cons, List.drop_zero, List.drop_nil, List.take_succ_cons, List.take_zero, List.take_nil, List.cons_append, List.nil_append, zCF, ldSF] at hS
                refine then_n ?_
                refine cond_b hS rfl (fun hc13 => ?_) (fun hc13 => ?_)
                · skip
                  simp at hc13
                · skip
                  refine wp_skip ?_
                  refine block_n ?_
                  refine then_n ?_
                  refine region_seq hS (by kernel_rfl)
                      (Chain.cons (Cert.free rfl (o_add .t (.ci (by kernel_rfl)))) ⟨rfl, trivial⟩ trivial
                      (Chain.cons (Cert.free rfl (o_move .t (by rfl))) ⟨rfl, trivial⟩ trivial
                      Chain.nil))
                      (by kernel_rfl) (by rw [hB]; kernel_rfl) ?_
                  clear hS; intro a w F hS
                  replace hS := hS.norm [(0, _), (5, _), (6, _), (8, _), (9, _), (10, _), (11, _), (12, _), (27, _), (28, _), (29, _), (30, _), (31, _), (32, _), (33, _), (34, _), (35, _), (36, _), (37, _), (47, _), (48, _), (49, _), (61, _), (62, _), (63, _), (64, _), (65, _), (66, _), (67, _), (68, _), (69, _), (70, _), (71, _), (72, _), (73, _), (74, _), (75, _), (76, _), (77, _), (78, _), (79, _), (80, _), (81, _), (82, _), (83, _), (84, _), (85, _), (86, _), (87, _), (88, _), (89, _), (90, _), (91, _), (92, _), (93, _), (94, _), (95, _), (96, _), (97, _), (98, _), (99, _)] [(0, _), (101, _), (102, _), (103, _), (104, _), (105, _)] ⟨rfl, rfl, rfl, rfl, rfl, rfl, rfl, rfl, rfl, rfl, rfl, rfl, rfl, rfl, rfl, rfl, rfl, rfl, rfl, rfl, rfl, rfl, rfl, rfl, rfl, rfl, rfl, rfl, rfl, rfl, rfl, rfl, rfl, rfl, rfl, rfl, rfl, rfl, rfl, rfl, rfl, rfl, rfl, rfl, rfl, rfl, rfl, rfl, rfl, rfl, rfl, rfl, rfl, rfl, rfl, rfl, rfl, rfl, rfl, rfl, rfl, trivial⟩ ⟨rfl, rfl, rfl, rfl, rfl, rfl, trivial⟩
                  obtain ⟨F, hS⟩ := hS
                  try dsimp only [RS.sub, SF.sub, CF.sub, csub, Anc.sub, stCells, List.map, List.length_cons, List.length_nil, Nat.reduceAdd, List.drop_succ_cons, List.drop_zero, List.drop_nil, List.take_succ_cons, List.take_zero, List.take_nil, List.cons_append, List.nil_append, zCF, ldSF] at hS
                  refine then_n ?_
                  replace hS := hS.ent (i := 29) (s' := .pv (.int .i64 ((i + 1 : Nat) : Int))) rfl (.int (wrap_succ (by omega)))
                  replace hS := hS.norm [(0, _), (5, _), (6, _), (27, _), (28, _), (29, _)] [(0, _), (101, _), (102, _)] ⟨rfl, rfl, rfl, rfl, rfl, rfl, trivial⟩ ⟨rfl, rfl, rfl, trivial⟩
                  obtain ⟨F, hS⟩ := hS
                  exact ⟨(i + 1, redoL (D, U)), F, by dsimp only; omega, hS, by dsimp only; omega⟩
              · skip
                refine wp_skip ?_
                refine block_n ?_
                refine then_n ?_
                refine wp_seq ?_
                refine region_any (by kernel_rfl) hS (by kernel_rfl)
                    (Chain.cons (Cert.free rfl (o_move .t (by rfl))) ⟨rfl, trivial⟩ trivial
                    (Chain.cons (Cert.free rfl (o_move .t (by rfl))) ⟨rfl, trivial⟩ trivial
                    (Chain.cons (Cert.free rfl (o_neq .t .t)) ⟨rfl, rfl, trivial⟩ trivial
                    (Chain.cons (Cert.free rfl (o_move .t (by rfl))) ⟨rfl, trivial⟩ trivial
                    (Chain.cons (Cert.cond rfl rfl (fun h => o_load (ag := true) (sz := 4) 104 .is (by kernel_rfl) (by kernel_rfl) (by kernel_rfl) (by rfl))) ⟨rfl, rfl, trivial⟩ ⟨rfl, trivial⟩
                    (Chain.cons (Cert.cond rfl rfl (fun h => o_load (ag := true) (sz := 4) 105 .is (by kernel_rfl) (by kernel_rfl) (by kernel_rfl) (by rfl))) ⟨rfl, rfl, trivial⟩ ⟨rfl, trivial⟩
                    (Chain.cons (Cert.cond rfl rfl (fun h => o_callP (sameDelta_c noD noD) Try.func28 rfl (by kernel_rfl) (Args.two (.pagg (.w h)) (.pagg (.w h))))) ⟨rfl, rfl, rfl, trivial⟩ trivial
                    (Chain.cons (Cert.cond rfl rfl (fun h => o_not (.w h))) ⟨rfl, rfl, trivial⟩ trivial
                    (Chain.cons (Cert.free rfl (o_or2 .t .t)) ⟨rfl, rfl, trivial⟩ trivial
                    (Chain.cons (Cert.free rfl (o_move .t (by rfl))) ⟨rfl, trivial⟩ trivial
                    (Chain.cons (Cert.cond rfl rfl (fun h => o_move .t (by rfl))) ⟨rfl, rfl, trivial⟩ trivial
                    (Chain.cons (Cert.condR rfl rfl (by rfl) (fun h => o_callG1 101 (len_c b (refRoomU m) D U) Try.func29 rfl (by kernel_rfl) (Args.one (.w h)))) ⟨rfl, rfl, trivial⟩ ⟨rfl, trivial⟩
                    (Chain.cons (Cert.cond rfl rfl (fun h => o_fieldAddr (off := 0) 102 .is (by kernel_rfl) (by rfl))) ⟨rfl, rfl, trivial⟩ ⟨rfl, trivial⟩
                    (Chain.cons (Cert.cond rfl rfl (fun h => o_load (ag := false) (sz := 1) 102 (.w h .adr) (by kernel_rfl) (by kernel_rfl) (by kernel_rfl) (by rfl))) ⟨rfl, rfl, trivial⟩ ⟨rfl, trivial⟩
                    (Chain.cons (Cert.cond rfl rfl (fun h => o_len_sl Try.underlying47 (.w h))) ⟨rfl, rfl, trivial⟩ trivial
                    (Chain.cons (Cert.cond rfl rfl (fun h => o_neq (.w h) (.w h))) ⟨rfl, rfl, rfl, trivial⟩ trivial
                    (Chain.cons (Cert.free rfl (o_or2 .t .t)) ⟨rfl, rfl, trivial⟩ trivial
                    (Chain.cons (Cert.free rfl (o_move .t (by rfl))) ⟨rfl, trivial⟩ trivial
                    (Chain.cons (Cert.cond rfl rfl (fun h => o_move .t (by rfl))) ⟨rfl, rfl, trivial⟩ trivial
                    (Chain.cons (Cert.condR rfl rfl (by rfl) (fun h => o_callG1 101 (ahead_c b (refRoomU m) D U) Try.func30 rfl (by kernel_rfl) (Args.one (.w h)))) ⟨rfl, rfl, trivial⟩ ⟨rfl, trivial⟩
                    (Chain.cons (Cert.cond rfl rfl (fun h => o_fieldAddr (off := 1) 102 .is (by kernel_rfl) (by rfl))) ⟨rfl, rfl, trivial⟩ ⟨rfl, trivial⟩
                    (Chain.cons (Cert.cond rfl rfl (fun h => o_load (ag := false) (sz := 1) 102 (.w h .adr) (by kernel_rfl) (by kernel_rfl) (by kernel_rfl) (by rfl))) ⟨rfl, rfl, trivial⟩ ⟨rfl, trivial⟩
                    (Chain.cons (Cert.cond rfl rfl (fun h => o_len_sl Try.underlying47 (.w h))) ⟨rfl, rfl, trivial⟩ trivial
                    (Chain.cons (Cert.cond rfl rfl (fun h => o_neq (.w h) (.w h))) ⟨rfl, rfl, rfl, trivial⟩ trivial
                    (Chain.cons (Cert.free rfl (o_or2 .t .t)) ⟨rfl, rfl, trivial⟩ trivial
                    Chain.nil)))))))))))))))))))))))))
                    (by kernel_rfl) (by rw [hB]; kernel_rfl) ?_
                clear hS; intro a w F hS
                replace hS := hS.norm [(0, _), (5, _), (6, _), (8, _), (9, _), (10, _), (11, _), (12, _), (27, _), (28, _), (29, _), (30, _), (31, _), (32, _), (33, _), (34, _), (35, _), (36, _), (37, _), (47, _), (48, _), (49, _), (61, _), (62, _), (74, _), (75, _), (76, _), (77, _), (78, _), (79, _), (80, _), (81, _), (82, _), (83, _), (84, _), (85, _), (86, _), (87, _), (88, _), (89, _), (90, _), (91, _), (92, _), (93, _), (94, _), (95, _), (96, _), (97, _), (98, _)] [(0, _), (101, _), (102, _), (103, _), (104, _), (105, _)] ⟨rfl, rfl, rfl, rfl, rfl, rfl, rfl, rfl, rfl, rfl, rfl, rfl, rfl, rfl, rfl, rfl, rfl, rfl, rfl, rfl, rfl, rfl, rfl, rfl, rfl, rfl, rfl, rfl, rfl, rfl, rfl, rfl, rfl, rfl, rfl, rfl, rfl, rfl, rfl, rfl, rfl, rfl, rfl, rfl, rfl, rfl, rfl, rfl, rfl, trivial⟩ ⟨rfl, rfl, rfl, rfl, rfl, rfl, trivial⟩
                obtain ⟨F, hS⟩ := hS
                try dsimp only [RS.sub, SF.sub, CF.sub, csub, Anc.sub, stCells, List.map, List.length_cons, List.length_nil, Nat.reduceAdd, List.drop_succ_cons, List.drop_zero, List.drop_nil, List.take_succ_cons, List.take_zero, List.take_nil, List.cons_append, List.nil_append, zCF, ldSF] at hS
                refine then_n ?_
                refine cond_b hS rfl (fun hc14 => ?_) (fun hc14 => ?_)
                · skip
                  simp at hc14
                · skip
                  refine wp_skip ?_
                  refine block_n ?_
                  refine then_n ?_
                  refine region_seq hS (by kernel_rfl)
                      (Chain.cons (Cert.free rfl (o_add .t (.ci (by kernel_rfl)))) ⟨rfl, trivial⟩ trivial
                      (Chain.cons (Cert.free rfl (o_move .t (by rfl))) ⟨rfl, trivial⟩ trivial
                      Chain.nil))
                      (by kernel_rfl) (by rw [hB]; kernel_rfl) ?_
                  clear hS; intro a w F hS
                  replace hS := hS.norm [(0, _), (5, _), (6, _), (8, _), (9, _), (10, _), (11, _), (12, _), (27, _), (28, _), (29, _), (30, _), (31, _), (32, _), (33, _), (34, _), (35, _), (36, _), (37, _), (47, _), (48, _), (49, _), (61, _), (62, _), (74, _), (75, _), (76, _), (77, _), (78, _), (79, _), (80, _), (81, _), (82, _), (83, _), (84, _), (85, _), (86, _), (87, _), (88, _), (89, _), (90, _), (91, _), (92, _), (93, _), (94, _), (95, _), (96, _), (97, _), (98, _), (99, _)] [(0, _), (101, _), (102, _), (103, _), (104, _), (105, _)] ⟨rfl, rfl, rfl, rfl, rfl, rfl, rfl, rfl, rfl, rfl, rfl, rfl, rfl, rfl, rfl, rfl, rfl, rfl, rfl, rfl, rfl, rfl, rfl, rfl, rfl, rfl, rfl, rfl, rfl, rfl, rfl, rfl, rfl, rfl, rfl, rfl, rfl, rfl, rfl, rfl, rfl, rfl, rfl, rfl, rfl, rfl, rfl, rfl, rfl, rfl, trivial⟩ ⟨rfl, rfl, rfl, rfl, rfl, rfl, trivial⟩
                  obtain ⟨F, hS⟩ := hS
                  try dsimp only [RS.sub, SF.sub, CF.sub, csub, Anc.sub, stCells, List.map, List.length_cons, List.length_nil, Nat.reduceAdd, List.drop_succ_cons, List.drop_zero, List.drop_nil, List.take_succ_cons, List.take_zero, List.take_nil, List.cons_append, List.nil_append, zCF, ldSF] at hS
                  refine then_n ?_
                  replace hS := hS.ent (i := 29) (s' := .pv (.int .i64 ((i + 1 : Nat) : Int))) rfl (.int (wrap_succ (by omega)))
                  replace hS := hS.norm [(0, _), (5, _), (6, _), (27, _), (28, _), (29, _)] [(0, _), (101, _), (102, _)] ⟨rfl, rfl, rfl, rfl, rfl, rfl, trivial⟩ ⟨rfl, rfl, rfl, trivial⟩
                  obtain ⟨F, hS⟩ := hS
                  exact ⟨(i + 1, (D, U)), F, by dsimp only; omega, hS, by dsimp only; omega⟩
    · skip
      refine wp_exit ?_
      refine then_x ?_
      refine then_x ?_
      refine block_x ?_
      refine then_n ?_
      refine wp_seq ?_
      refine region_seq hS (by kernel_rfl)
          (Chain.cons (Cert.free rfl (o_callP (livesU_c) Try.func21 rfl (by kernel_rfl) Args.nil)) trivial trivial
          (Chain.cons (Cert.free rfl (o_assign .t (by rfl))) ⟨rfl, trivial⟩ trivial
          Chain.nil))
          (by kernel_rfl) (by rw [hB]; kernel_rfl) ?_
      clear hS; intro a w F hS
      replace hS := hS.norm [(4, _)] [(0, _), (101, _)] ⟨rfl, trivial⟩ ⟨rfl, rfl, trivial⟩
      obtain ⟨F, hS⟩ := hS
      try dsimp only [RS.sub, SF.sub, CF.sub, csub, Anc.sub, stCells, List.map, List.length_cons, List.length_nil, Nat.reduceAdd, List.drop_succ_cons, List.drop_zero, List.drop_nil, List.take_succ_cons, List.take_zero, List.take_nil, List.cons_append, List.nil_append, zCF, ldSF] at hS
      refine then_n ?_
      refine wp_ret ?_
      refine ret_P hfr hS rfl (.tmp rfl .nil) (.one (.bool (by first | rfl | simp)))

end Go.Proofs.Ytmdhidjpnmkmjaa
