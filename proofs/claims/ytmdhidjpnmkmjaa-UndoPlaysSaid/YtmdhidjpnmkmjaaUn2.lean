/- Push. No condition beyond those that each theorem says. -/
import Derived.Test.YtmdhidjpnmkmjaaUn1
namespace Go.Proofs.Ytmdhidjpnmkmjaa
open Go Go.Gm
set_option linter.unusedVariables false
set_option linter.unusedSimpArgs false
set_option maxHeartbeats 4000000
set_option maxRecDepth 8000

theorem push_c (b n : Nat) (D U : List DeltaD) (d : DeltaD) (hd : DOk d) : FnG Try.prog 22 1 [.is (.pointer (some ⟨b, 0, none⟩)), .agg (rDelta d)] [logH (.pointer (some ⟨b, 0, none⟩)) n D U] (.tup []) (fun _ => [logH (.pointer (some ⟨b, 0, none⟩)) n (pushD n D d) ([] : List DeltaD)]) := by
  refine FnG.mk Try.func22 rfl Try.ntmps22 rfl (by kernel_rfl) ?_
  intro B F0 a w F hB hG hS
  obtain ⟨rv, hS⟩ := hS.open_ex 1 rfl
  obtain ⟨c, hS⟩ := hS.open_ex 1 rfl
  obtain ⟨f, hS⟩ := hS.open_ex 1 rfl
  obtain ⟨hI, hS⟩ := hS.open_and 1 rfl
  obtain ⟨F, hS⟩ := hS.peel 1 2 rfl rfl
  obtain ⟨F, hS⟩ := hS.peel 1 3 rfl rfl
  have hroom := hI.room
  have hff := hI.first
  have hfit := hI.fits
  rw [List.length_append, List.length_reverse] at hfit
  obtain ⟨F, hS⟩ := hS.norm [(0, _), (1, _)] [(0, _), (2, _), (3, _)] ⟨rfl, rfl, trivial⟩ ⟨rfl, rfl, rfl, trivial⟩
  refine wp_seq ?_
  refine region_seq hS (by kernel_rfl)
      (Chain.cons (Cert.free rfl (o_boxA 101 (.conv .t .agg) (by kernel_rfl))) ⟨rfl, trivial⟩ trivial
      Chain.nil)
      (by kernel_rfl) (by rw [hB]; kernel_rfl) ?_
  clear hS; intro a w F hS
  replace hS := hS.sub
  replace hS := hS.norm [(0, _), (3, _)] [(0, _), (2, _), (3, _), (101, _)] ⟨rfl, rfl, trivial⟩ ⟨rfl, rfl, rfl, rfl, trivial⟩
  obtain ⟨F, hS⟩ := hS
  try dsimp only [RS.sub, SF.sub, CF.sub, csub, Anc.sub, stCells, List.map, List.length_cons, List.length_nil, Nat.reduceAdd, List.drop_succ_cons, List.drop_zero, List.drop_nil, List.take_succ_cons, List.take_zero, List.take_nil, List.cons_append, List.nil_append, zCF, ldSF] at hS
  generalize Act.tau a 3 = v3 at hS
  refine then_n ?_
  refine wp_seq ?_
  refine wp_seq ?_
  refine region_seq hS (by kernel_rfl)
      (Chain.cons (Cert.free rfl (o_move .t (by rfl))) ⟨rfl, trivial⟩ trivial
      (Chain.cons (Cert.free rfl (o_nil_eql _ Try.underlying44 rfl .t)) ⟨rfl, trivial⟩ trivial
      (Chain.cons (Cert.free rfl (o_move .t (by rfl))) ⟨rfl, trivial⟩ trivial
      (Chain.cons (Cert.cond rfl rfl (fun h => o_move .t (by rfl))) ⟨rfl, rfl, trivial⟩ trivial
      (Chain.cons (Cert.cond rfl rfl (fun h => o_nilCheck 2 (.w h .is) (by rfl))) ⟨rfl, rfl, trivial⟩ ⟨rfl, trivial⟩
      (Chain.cons (Cert.cond rfl rfl (fun h => o_fieldAddr (off := 0) 2 (.w h .adr) (by kernel_rfl) (by rfl))) ⟨rfl, rfl, trivial⟩ ⟨rfl, trivial⟩
      (Chain.cons (Cert.cond rfl rfl (fun h => o_load (ag := false) (sz := 1) 2 (.w h .adr) (by kernel_rfl) (by kernel_rfl) (by kernel_rfl) (by rfl))) ⟨rfl, rfl, trivial⟩ ⟨rfl, trivial⟩
      (Chain.cons (Cert.cond rfl rfl (fun h => o_eql (.w h) (.ci (by kernel_rfl)))) ⟨rfl, rfl, trivial⟩ trivial
      (Chain.cons (Cert.free rfl (o_or2 .t .t)) ⟨rfl, rfl, trivial⟩ trivial
      Chain.nil)))))))))
      (by kernel_rfl) (by rw [hB]; kernel_rfl) ?_
  clear hS; intro a w F hS
  replace hS := hS.norm [(0, _), (3, _), (12, _)] [(0, _), (2, _), (3, _), (101, _)] ⟨rfl, rfl, rfl, trivial⟩ ⟨rfl, rfl, rfl, rfl, trivial⟩
  obtain ⟨F, hS⟩ := hS
  try dsimp only [RS.sub, SF.sub, CF.sub, csub, Anc.sub, stCells, List.map, List.length_cons, List.length_nil, Nat.reduceAdd, List.drop_succ_cons, List.drop_zero, List.drop_nil, List.take_succ_cons, List.take_zero, List.take_nil, List.cons_append, List.nil_append, zCF, ldSF] at hS
  refine then_n ?_
  refine cond_b hS rfl (fun hc0 => ?_) (fun hc0 => ?_)
  · skip
    have hn0 : n = 0 := by simp at hc0; omega
    have hD0 : D = [] := List.length_eq_zero_iff.1 (by omega)
    have hU0 : U = [] := List.length_eq_zero_iff.1 (by omega)
    subst hn0
    subst hD0
    subst hU0
    refine wp_ret ?_
    refine then_r ?_
    have hS := hS.fresh 1 rfl
    obtain ⟨F, hS⟩ := hS.push 1 3 rfl rfl rfl (by kernel_rfl)
    obtain ⟨F, hS⟩ := hS.push 1 2 rfl rfl rfl (by kernel_rfl)
    have hS := hS.turn 1 rfl (r' := RS.hp (logH (.pointer (some ⟨b, 0, none⟩)) 0 (pushD 0 [] d) [])) (fun _ _ _ _ h => ⟨_, _, _, hI, h⟩)
    refine ret_G1 hG hS rfl .nil Tells.none rfl
  · skip
    have h0 : n ≠ 0 := by simp at hc0; omega
    refine wp_skip ?_
    refine then_n ?_
    refine wp_seq ?_
    refine wp_seq ?_
    refine region_any (by kernel_rfl) hS (by kernel_rfl)
        (Chain.cons (Cert.free rfl (o_move .t (by rfl))) ⟨rfl, trivial⟩ trivial
        (Chain.cons (Cert.free rfl (o_nilCheck 2 .is (by rfl))) ⟨rfl, trivial⟩ ⟨rfl, trivial⟩
        (Chain.cons (Cert.free rfl (o_fieldAddr (off := 3) 2 .adr (by kernel_rfl) (by rfl))) ⟨rfl, trivial⟩ ⟨rfl, trivial⟩
        (Chain.cons (Cert.free rfl (o_load (ag := false) (sz := 1) 2 .adr (by kernel_rfl) (by kernel_rfl) (by kernel_rfl) (by rfl))) ⟨rfl, trivial⟩ ⟨rfl, trivial⟩
        (Chain.cons (Cert.free rfl (o_move .t (by rfl))) ⟨rfl, trivial⟩ trivial
        (Chain.cons (Cert.free rfl (o_nilCheck 2 .is (by rfl))) ⟨rfl, trivial⟩ ⟨rfl, trivial⟩
        (Chain.cons (Cert.free rfl (o_fieldAddr (off := 0) 2 .adr (by kernel_rfl) (by rfl))) ⟨rfl, trivial⟩ ⟨rfl, trivial⟩
        (Chain.cons (Cert.free rfl (o_load (ag := false) (sz := 1) 2 .adr (by kernel_rfl) (by kernel_rfl) (by kernel_rfl) (by rfl))) ⟨rfl, trivial⟩ ⟨rfl, trivial⟩
        (Chain.cons (Cert.free rfl (o_eql .t .t)) ⟨rfl, rfl, trivial⟩ trivial
        Chain.nil)))))))))
        (by kernel_rfl) (by rw [hB]; kernel_rfl) ?_
    clear hS; intro a w F hS
    replace hS := hS.norm [(0, _), (3, _), (21, _)] [(0, _), (2, _), (3, _), (101, _)] ⟨rfl, rfl, rfl, trivial⟩ ⟨rfl, rfl, rfl, rfl, trivial⟩
    obtain ⟨F, hS⟩ := hS
    try dsimp only [RS.sub, SF.sub, CF.sub, csub, Anc.sub, stCells, List.map, List.length_cons, List.length_nil, Nat.reduceAdd, List.drop_succ_cons, List.drop_zero, List.drop_nil, List.take_succ_cons, List.take_zero, List.take_nil, List.cons_append, List.nil_append, zCF, ldSF] at hS
    refine then_n ?_
    refine cond_b hS rfl (fun hc1 => ?_) (fun hc1 => ?_)
    · skip
      have hfull : D.length = n := by simp at hc1; omega
      refine wp_seq ?_
      refine region_seq hS (by kernel_rfl)
          (Chain.cons (Cert.free rfl (o_move .t (by rfl))) ⟨rfl, trivial⟩ trivial
          (Chain.cons (Cert.free rfl (o_move .t (by rfl))) ⟨rfl, trivial⟩ trivial
          (Chain.cons (Cert.free rfl (o_callR (cells := [.pv _, .pv _, .pv _, .pv _, .pv _]) 2 (place_c n f 1 _ _ _ h0 hroom hff (by omega)) (fun _ _ _ _ _ h => h) rfl Try.func44 rfl (by kernel_rfl) (ArgsLent.two .is (.ci (by kernel_rfl))))) ⟨rfl, trivial⟩ ⟨rfl, trivial⟩
          (Chain.cons (Cert.free rfl (o_nilCheck 2 .is (by rfl))) ⟨rfl, trivial⟩ ⟨rfl, trivial⟩
          (Chain.cons (Cert.free rfl (o_fieldAddr (off := 2) 2 .adr (by kernel_rfl) (by rfl))) ⟨rfl, trivial⟩ ⟨rfl, trivial⟩
          (Chain.cons (Cert.free rfl (o_store1 2 .adr .t one_int (by kernel_rfl) (by kernel_rfl))) ⟨rfl, rfl, trivial⟩ ⟨rfl, trivial⟩
          Chain.nil))))))
          (by kernel_rfl) (by rw [hB]; kernel_rfl) ?_
      clear hS; intro a w F hS
      replace hS := hS.norm [(0, _), (3, _)] [(0, _), (2, _), (3, _), (101, _)] ⟨rfl, rfl, trivial⟩ ⟨rfl, rfl, rfl, rfl, trivial⟩
      obtain ⟨F, hS⟩ := hS
      try dsimp only [RS.sub, SF.sub, CF.sub, csub, Anc.sub, stCells, List.map, List.length_cons, List.length_nil, Nat.reduceAdd, List.drop_succ_cons, List.drop_zero, List.drop_nil, List.take_succ_cons, List.take_zero, List.take_nil, List.cons_append, List.nil_append, zCF, ldSF] at hS
      obtain ⟨g, hge⟩ : ∃ g, g = (f + 1) % n := ⟨_, rfl⟩
      rw [← hge] at hS
      have hg : g ≤ n := by rw [hge]; exact Nat.le_of_lt (Nat.mod_lt _ (Nat.pos_of_ne_zero h0))
      refine then_n ?_
      refine region_seq hS (by kernel_rfl)
          (Chain.cons (Cert.free rfl (o_move .t (by rfl))) ⟨rfl, trivial⟩ trivial
          (Chain.cons (Cert.free rfl (o_nilCheck 2 .is (by rfl))) ⟨rfl, trivial⟩ ⟨rfl, trivial⟩
          (Chain.cons (Cert.free rfl (o_fieldAddr (off := 3) 2 .adr (by kernel_rfl) (by rfl))) ⟨rfl, trivial⟩ ⟨rfl, trivial⟩
          (Chain.cons (Cert.free rfl (o_load (ag := false) (sz := 1) 2 .adr (by kernel_rfl) (by kernel_rfl) (by kernel_rfl) (by rfl))) ⟨rfl, trivial⟩ ⟨rfl, trivial⟩
          (Chain.cons (Cert.free rfl (o_sub .t (.ci (by kernel_rfl)))) ⟨rfl, trivial⟩ trivial
          (Chain.cons (Cert.free rfl (o_nilCheck 2 .is (by rfl))) ⟨rfl, trivial⟩ ⟨rfl, trivial⟩
          (Chain.cons (Cert.free rfl (o_fieldAddr (off := 3) 2 .adr (by kernel_rfl) (by rfl))) ⟨rfl, trivial⟩ ⟨rfl, trivial⟩
          (Chain.cons (Cert.free rfl (o_store1 2 .adr .t one_int (by kernel_rfl) (by kernel_rfl))) ⟨rfl, rfl, trivial⟩ ⟨rfl, trivial⟩
          Chain.nil))))))))
          (by kernel_rfl) (by rw [hB]; kernel_rfl) ?_
      clear hS; intro a w F hS
      replace hS := hS.norm [(0, _), (3, _)] [(0, _), (2, _), (3, _), (101, _)] ⟨rfl, rfl, trivial⟩ ⟨rfl, rfl, rfl, rfl, trivial⟩
      obtain ⟨F, hS⟩ := hS
      try dsimp only [RS.sub, SF.sub, CF.sub, csub, Anc.sub, stCells, List.map, List.length_cons, List.length_nil, Nat.reduceAdd, List.drop_succ_cons, List.drop_zero, List.drop_nil, List.take_succ_cons, List.take_zero, List.take_nil, List.cons_append, List.nil_append, zCF, ldSF] at hS
      obtain ⟨k, hke⟩ : ∃ k, k = D.length - 1 := ⟨_, rfl⟩
      rw [show IntKind.wrap .i64 ((D.length : Int) - 1) = (k : Int) by rw [wrap_i64 (by omega)]; omega] at hS
      have hk : k ≤ n := by omega
      have hP := hI.pushFull hd h0 hfull
      rw [← hge, ← hke] at hP
      have hI0 : (0 : Int) ≤ (((g + k) % n : Nat) : Int) := Int.natCast_nonneg _
      have hI1 : (((g + k) % n : Nat) : Int) < c.length := by rw [hI.len]; exact Int.ofNat_lt.2 (Nat.mod_lt _ (Nat.pos_of_ne_zero h0))
      have hI2 : (((g + k) % n : Nat) : Int).toNat < c.length := by omega
      refine then_n ?_
      refine wp_seq ?_
      refine region_any (by kernel_rfl) hS (by kernel_rfl)
          (Chain.cons (Cert.free rfl (o_move .t (by rfl))) ⟨rfl, trivial⟩ trivial
          (Chain.cons (Cert.free rfl (o_nilCheck 2 .is (by rfl))) ⟨rfl, trivial⟩ ⟨rfl, trivial⟩
          (Chain.cons (Cert.free rfl (o_fieldAddr (off := 1) 2 .adr (by kernel_rfl) (by rfl))) ⟨rfl, trivial⟩ ⟨rfl, trivial⟩
          (Chain.cons (Cert.free rfl (o_load (ag := false) (sz := 1) 2 .adr (by kernel_rfl) (by kernel_rfl) (by kernel_rfl) (by rfl))) ⟨rfl, trivial⟩ ⟨rfl, trivial⟩
          (Chain.cons (Cert.free rfl (o_move .t (by rfl))) ⟨rfl, trivial⟩ trivial
          (Chain.cons (Cert.free rfl (o_move .t (by rfl))) ⟨rfl, trivial⟩ trivial
          (Chain.cons (Cert.free rfl (o_nilCheck 2 .is (by rfl))) ⟨rfl, trivial⟩ ⟨rfl, trivial⟩
          (Chain.cons (Cert.free rfl (o_fieldAddr (off := 3) 2 .adr (by kernel_rfl) (by rfl))) ⟨rfl, trivial⟩ ⟨rfl, trivial⟩
          (Chain.cons (Cert.free rfl (o_load (ag := false) (sz := 1) 2 .adr (by kernel_rfl) (by kernel_rfl) (by kernel_rfl) (by rfl))) ⟨rfl, trivial⟩ ⟨rfl, trivial⟩
          (Chain.cons (Cert.free rfl (o_callR (cells := [.pv _, .pv _, .pv _, .pv _, .pv _]) 2 (place_c n g k _ _ _ h0 hroom hg hk) (fun _ _ _ _ _ h => h) rfl Try.func44 rfl (by kernel_rfl) (ArgsLent.two .is .t))) ⟨rfl, rfl, trivial⟩ ⟨rfl, trivial⟩
          (Chain.cons (Cert.free rfl (o_load (ag := true) (sz := 4) 101 .is (by kernel_rfl) (by kernel_rfl) (by kernel_rfl) (by rfl))) ⟨rfl, trivial⟩ ⟨rfl, trivial⟩
          (Chain.cons (Cert.free rfl (o_callP (ucopied_c d hd) Try.func45 rfl (by kernel_rfl) (Args.one (.pagg .t)))) ⟨rfl, trivial⟩ trivial
          (Chain.cons (Cert.free rfl (o_indexAddr_row (sz := 4) 3 (.mk Try.underlying47 (by kernel_rfl)) .is .t hI0 hI1 (by rfl))) ⟨rfl, rfl, trivial⟩ ⟨rfl, trivial⟩
          (Chain.cons (Cert.free rfl (o_store_row (sz := 4) 3 .t (by intro x; rfl) hI2 .t (by kernel_rfl))) ⟨rfl, rfl, trivial⟩ ⟨rfl, trivial⟩
          Chain.nil))))))))))))))
          (by kernel_rfl) (by rw [hB]; kernel_rfl) ?_
      clear hS; intro a w F hS
      replace hS := hS.norm [(0, _)] [(0, _), (2, _), (3, _)] ⟨rfl, trivial⟩ ⟨rfl, rfl, rfl, trivial⟩
      obtain ⟨F, hS⟩ := hS
      try dsimp only [RS.sub, SF.sub, CF.sub, csub, Anc.sub, stCells, List.map, List.length_cons, List.length_nil, Nat.reduceAdd, List.drop_succ_cons, List.drop_zero, List.drop_nil, List.take_succ_cons, List.take_zero, List.take_nil, List.cons_append, List.nil_append, zCF, ldSF] at hS
      rw [Int.toNat_natCast] at hS
      refine then_n ?_
      refine region_seq hS (by kernel_rfl)
          (Chain.cons (Cert.free rfl (o_move .t (by rfl))) ⟨rfl, trivial⟩ trivial
          (Chain.cons (Cert.free rfl (o_move .t (by rfl))) ⟨rfl, trivial⟩ trivial
          (Chain.cons (Cert.free rfl (o_move .t (by rfl))) ⟨rfl, trivial⟩ trivial
          (Chain.cons (Cert.free rfl (o_nilCheck 2 .is (by rfl))) ⟨rfl, trivial⟩ ⟨rfl, trivial⟩
          (Chain.cons (Cert.free rfl (o_fieldAddr (off := 3) 2 .adr (by kernel_rfl) (by rfl))) ⟨rfl, trivial⟩ ⟨rfl, trivial⟩
          (Chain.cons (Cert.free rfl (o_load (ag := false) (sz := 1) 2 .adr (by kernel_rfl) (by kernel_rfl) (by kernel_rfl) (by rfl))) ⟨rfl, trivial⟩ ⟨rfl, trivial⟩
          (Chain.cons (Cert.free rfl (o_add .t (.ci (by kernel_rfl)))) ⟨rfl, trivial⟩ trivial
          (Chain.cons (Cert.free rfl (o_nilCheck 2 .is (by rfl))) ⟨rfl, trivial⟩ ⟨rfl, trivial⟩
          (Chain.cons (Cert.free rfl (o_fieldAddr (off := 3) 2 .adr (by kernel_rfl) (by rfl))) ⟨rfl, trivial⟩ ⟨rfl, trivial⟩
          (Chain.cons (Cert.free rfl (o_store1 2 .adr .t one_int (by kernel_rfl) (by kernel_rfl))) ⟨rfl, rfl, trivial⟩ ⟨rfl, trivial⟩
          (Chain.cons (Cert.free rfl (o_nilCheck 2 .is (by rfl))) ⟨rfl, trivial⟩ ⟨rfl, trivial⟩
          (Chain.cons (Cert.free rfl (o_fieldAddr (off := 4) 2 .adr (by kernel_rfl) (by rfl))) ⟨rfl, trivial⟩ ⟨rfl, trivial⟩
          (Chain.cons (Cert.free rfl (o_store1 2 .adr (.ci (by kernel_rfl)) one_int (by kernel_rfl) (by kernel_rfl))) ⟨rfl, trivial⟩ ⟨rfl, trivial⟩
          Chain.nil)))))))))))))
          (by kernel_rfl) (by rw [hB]; kernel_rfl) ?_
      clear hS; intro a w F hS
      replace hS := hS.norm [] [(0, _), (2, _), (3, _)] trivial ⟨rfl, rfl, rfl, trivial⟩
      obtain ⟨F, hS⟩ := hS
      try dsimp only [RS.sub, SF.sub, CF.sub, csub, Anc.sub, stCells, List.map, List.length_cons, List.length_nil, Nat.reduceAdd, List.drop_succ_cons, List.drop_zero, List.drop_nil, List.take_succ_cons, List.take_zero, List.take_nil, List.cons_append, List.nil_append, zCF, ldSF] at hS
      rw [wrap_succ (by omega)] at hS
      have hS := hS.fresh 1 rfl
      obtain ⟨F, hS⟩ := hS.push 1 3 rfl rfl rfl (by kernel_rfl)
      obtain ⟨F, hS⟩ := hS.push 1 2 rfl rfl rfl (by kernel_rfl)
      have hS := hS.turn 1 rfl (r' := RS.hp (logH (.pointer (some ⟨b, 0, none⟩)) n (pushD n D d) [])) (fun _ _ _ _ h => ⟨_, _, _, hP.1, (by rw [hP.2]; exact h)⟩)
      refine ret_G1 hG hS rfl .nil Tells.none rfl
    · skip
      have hpart : D.length < n := by simp at hc1; omega
      obtain ⟨g, hge⟩ : ∃ g, g = f := ⟨_, rfl⟩
      subst hge
      obtain ⟨k, hke⟩ : ∃ k, k = D.length := ⟨_, rfl⟩
      rw [← hke] at hS
      have hk : k ≤ n := by omega
      have hg := hff
      have hP := hI.push hd hpart
      rw [← hke] at hP
      have hI0 : (0 : Int) ≤ (((g + k) % n : Nat) : Int) := Int.natCast_nonneg _
      have hI1 : (((g + k) % n : Nat) : Int) < c.length := by rw [hI.len]; exact Int.ofNat_lt.2 (Nat.mod_lt _ (Nat.pos_of_ne_zero h0))
      have hI2 : (((g + k) % n : Nat) : Int).toNat < c.length := by omega
      refine wp_skip ?_
      refine then_n ?_
      refine wp_seq ?_
      refine region_any (by kernel_rfl) hS (by kernel_rfl)
          (Chain.cons (Cert.free rfl (o_move .t (by rfl))) ⟨rfl, trivial⟩ trivial
          (Chain.cons (Cert.free rfl (o_nilCheck 2 .is (by rfl))) ⟨rfl, trivial⟩ ⟨rfl, trivial⟩
          (Chain.cons (Cert.free rfl (o_fieldAddr (off := 1) 2 .adr (by kernel_rfl) (by rfl))) ⟨rfl, trivial⟩ ⟨rfl, trivial⟩
          (Chain.cons (Cert.free rfl (o_load (ag := false) (sz := 1) 2 .adr (by kernel_rfl) (by kernel_rfl) (by kernel_rfl) (by rfl))) ⟨rfl, trivial⟩ ⟨rfl, trivial⟩
          (Chain.cons (Cert.free rfl (o_move .t (by rfl))) ⟨rfl, trivial⟩ trivial
          (Chain.cons (Cert.free rfl (o_move .t (by rfl))) ⟨rfl, trivial⟩ trivial
          (Chain.cons (Cert.free rfl (o_nilCheck 2 .is (by rfl))) ⟨rfl, trivial⟩ ⟨rfl, trivial⟩
          (Chain.cons (Cert.free rfl (o_fieldAddr (off := 3) 2 .adr (by kernel_rfl) (by rfl))) ⟨rfl, trivial⟩ ⟨rfl, trivial⟩
          (Chain.cons (Cert.free rfl (o_load (ag := false) (sz := 1) 2 .adr (by kernel_rfl) (by kernel_rfl) (by kernel_rfl) (by rfl))) ⟨rfl, trivial⟩ ⟨rfl, trivial⟩
          (Chain.cons (Cert.free rfl (o_callR (cells := [.pv _, .pv _, .pv _, .pv _, .pv _]) 2 (place_c n g k _ _ _ h0 hroom hg hk) (fun _ _ _ _ _ h => h) rfl Try.func44 rfl (by kernel_rfl) (ArgsLent.two .is .t))) ⟨rfl, rfl, trivial⟩ ⟨rfl, trivial⟩
          (Chain.cons (Cert.free rfl (o_load (ag := true) (sz := 4) 101 .is (by kernel_rfl) (by kernel_rfl) (by kernel_rfl) (by rfl))) ⟨rfl, trivial⟩ ⟨rfl, trivial⟩
          (Chain.cons (Cert.free rfl (o_callP (ucopied_c d hd) Try.func45 rfl (by kernel_rfl) (Args.one (.pagg .t)))) ⟨rfl, trivial⟩ trivial
          (Chain.cons (Cert.free rfl (o_indexAddr_row (sz := 4) 3 (.mk Try.underlying47 (by kernel_rfl)) .is .t hI0 hI1 (by rfl))) ⟨rfl, rfl, trivial⟩ ⟨rfl, trivial⟩
          (Chain.cons (Cert.free rfl (o_store_row (sz := 4) 3 .t (by intro x; rfl) hI2 .t (by kernel_rfl))) ⟨rfl, rfl, trivial⟩ ⟨rfl, trivial⟩
          Chain.nil))))))))))))))
          (by kernel_rfl) (by rw [hB]; kernel_rfl) ?_
      clear hS; intro a w F hS
      replace hS := hS.norm [(0, _)] [(0, _), (2, _), (3, _)] ⟨rfl, trivial⟩ ⟨rfl, rfl, rfl, trivial⟩
      obtain ⟨F, hS⟩ := hS
      try dsimp only [RS.sub, SF.sub, CF.sub, csub, Anc.sub, stCells, List.map, List.length_cons, List.length_nil, Nat.reduceAdd, List.drop_succ_cons, List.drop_zero, List.drop_nil, List.take_succ_cons, List.take_zero, List.take_nil, List.cons_append, List.nil_append, zCF, ldSF] at hS
      rw [Int.toNat_natCast] at hS
      refine then_n ?_
      refine region_seq hS (by kernel_rfl)
          (Chain.cons (Cert.free rfl (o_move .t (by rfl))) ⟨rfl, trivial⟩ trivial
          (Chain.cons (Cert.free rfl (o_move .t (by rfl))) ⟨rfl, trivial⟩ trivial
          (Chain.cons (Cert.free rfl (o_move .t (by rfl))) ⟨rfl, trivial⟩ trivial
          (Chain.cons (Cert.free rfl (o_nilCheck 2 .is (by rfl))) ⟨rfl, trivial⟩ ⟨rfl, trivial⟩
          (Chain.cons (Cert.free rfl (o_fieldAddr (off := 3) 2 .adr (by kernel_rfl) (by rfl))) ⟨rfl, trivial⟩ ⟨rfl, trivial⟩
          (Chain.cons (Cert.free rfl (o_load (ag := false) (sz := 1) 2 .adr (by kernel_rfl) (by kernel_rfl) (by kernel_rfl) (by rfl))) ⟨rfl, trivial⟩ ⟨rfl, trivial⟩
          (Chain.cons (Cert.free rfl (o_add .t (.ci (by kernel_rfl)))) ⟨rfl, trivial⟩ trivial
          (Chain.cons (Cert.free rfl (o_nilCheck 2 .is (by rfl))) ⟨rfl, trivial⟩ ⟨rfl, trivial⟩
          (Chain.cons (Cert.free rfl (o_fieldAddr (off := 3) 2 .adr (by kernel_rfl) (by rfl))) ⟨rfl, trivial⟩ ⟨rfl, trivial⟩
          (Chain.cons (Cert.free rfl (o_store1 2 .adr .t one_int (by kernel_rfl) (by kernel_rfl))) ⟨rfl, rfl, trivial⟩ ⟨rfl, trivial⟩
          (Chain.cons (Cert.free rfl (o_nilCheck 2 .is (by rfl))) ⟨rfl, trivial⟩ ⟨rfl, trivial⟩
          (Chain.cons (Cert.free rfl (o_fieldAddr (off := 4) 2 .adr (by kernel_rfl) (by rfl))) ⟨rfl, trivial⟩ ⟨rfl, trivial⟩
          (Chain.cons (Cert.free rfl (o_store1 2 .adr (.ci (by kernel_rfl)) one_int (by kernel_rfl) (by kernel_rfl))) ⟨rfl, trivial⟩ ⟨rfl, trivial⟩
          Chain.nil)))))))))))))
          (by kernel_rfl) (by rw [hB]; kernel_rfl) ?_
      clear hS; intro a w F hS
      replace hS := hS.norm [] [(0, _), (2, _), (3, _)] trivial ⟨rfl, rfl, rfl, trivial⟩
      obtain ⟨F, hS⟩ := hS
      try dsimp only [RS.sub, SF.sub, CF.sub, csub, Anc.sub, stCells, List.map, List.length_cons, List.length_nil, Nat.reduceAdd, List.drop_succ_cons, List.drop_zero, List.drop_nil, List.take_succ_cons, List.take_zero, List.take_nil, List.cons_append, List.nil_append, zCF, ldSF] at hS
      rw [wrap_succ (by omega)] at hS
      have hS := hS.fresh 1 rfl
      obtain ⟨F, hS⟩ := hS.push 1 3 rfl rfl rfl (by kernel_rfl)
      obtain ⟨F, hS⟩ := hS.push 1 2 rfl rfl rfl (by kernel_rfl)
      have hS := hS.turn 1 rfl (r' := RS.hp (logH (.pointer (some ⟨b, 0, none⟩)) n (pushD n D d) [])) (fun _ _ _ _ h => ⟨_, _, _, hP.1, (by rw [hP.2]; exact h)⟩)
      refine ret_G1 hG hS rfl .nil Tells.none rfl

theorem push_nil (d : DeltaD) : FnP Try.prog 22 [.is (.pointer none), .agg (rDelta d)] (.tup []) := by
  refine FnP.mk Try.func22 rfl Try.ntmps22 rfl ?_
  intro B a w F hB hfr hS
  refine wp_seq ?_
  refine region_seq hS (by kernel_rfl)
      (Chain.cons (Cert.free rfl (o_boxA 101 (.conv .t .agg) (by kernel_rfl))) ⟨rfl, trivial⟩ trivial
      Chain.nil)
      (by kernel_rfl) (by rw [hB]; kernel_rfl) ?_
  clear hS; intro a w F hS
  replace hS := hS.sub
  replace hS := hS.norm [(0, _), (3, _)] [(0, _), (101, _)] ⟨rfl, rfl, trivial⟩ ⟨rfl, rfl, trivial⟩
  obtain ⟨F, hS⟩ := hS
  try dsimp only [RS.sub, SF.sub, CF.sub, csub, Anc.sub, stCells, List.map, List.length_cons, List.length_nil, Nat.reduceAdd, List.drop_succ_cons, List.drop_zero, List.drop_nil, List.take_succ_cons, List.take_zero, List.take_nil, List.cons_append, List.nil_append, zCF, ldSF] at hS
  generalize Act.tau a 3 = v3 at hS
  refine then_n ?_
  refine wp_seq ?_
  refine wp_seq ?_
  refine region_seq hS (by kernel_rfl)
      (Chain.cons (Cert.free rfl (o_move .t (by rfl))) ⟨rfl, trivial⟩ trivial
      (Chain.cons (Cert.free rfl (o_nil_eql _ Try.underlying44 rfl .t)) ⟨rfl, trivial⟩ trivial
      (Chain.cons (Cert.free rfl (o_move .t (by rfl))) ⟨rfl, trivial⟩ trivial
      (Chain.cons (Cert.cond rfl rfl (fun h => (OpC.never (by simp at h)))) ⟨rfl, trivial⟩ trivial
      (Chain.cons (Cert.cond rfl rfl (fun h => (OpC.never (by simp at h)))) ⟨rfl, trivial⟩ trivial
      (Chain.cons (Cert.cond rfl rfl (fun h => (OpC.never (by simp at h)))) ⟨rfl, trivial⟩ trivial
      (Chain.cons (Cert.cond rfl rfl (fun h => (OpC.never (by simp at h)))) ⟨rfl, trivial⟩ trivial
      (Chain.cons (Cert.cond rfl rfl (fun h => (OpC.never (by simp at h)))) ⟨rfl, trivial⟩ trivial
      (Chain.cons (Cert.free rfl (o_or2 .t .t)) ⟨rfl, rfl, trivial⟩ trivial
      Chain.nil)))))))))
      (by kernel_rfl) (by rw [hB]; kernel_rfl) ?_
  clear hS; intro a w F hS
  replace hS := hS.norm [(0, _), (3, _), (12, _)] [(0, _), (101, _)] ⟨rfl, rfl, rfl, trivial⟩ ⟨rfl, rfl, trivial⟩
  obtain ⟨F, hS⟩ := hS
  try dsimp only [RS.sub, SF.sub, CF.sub, csub, Anc.sub, stCells, List.map, List.length_cons, List.length_nil, Nat.reduceAdd, List.drop_succ_cons, List.drop_zero, List.drop_nil, List.take_succ_cons, List.take_zero, List.take_nil, List.cons_append, List.nil_append, zCF, ldSF] at hS
  refine then_n ?_
  refine cond_b hS rfl (fun hc0 => ?_) (fun hc0 => ?_)
  · skip
    refine wp_ret ?_
    refine then_r ?_
    refine ret_P hfr hS rfl .nil (Tells.none)
  · skip
    simp at hc0

end Go.Proofs.Ytmdhidjpnmkmjaa
