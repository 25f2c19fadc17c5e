/- The closure: reading rows. No condition beyond those that each theorem says. -/
import Derived.Test.YtpahapjcdldodaaDoorCk6
namespace Go.Proofs.YtpahapjcdldodaaDoor
open Go Go.Gm
set_option linter.unusedVariables false
set_option linter.unusedSimpArgs false
set_option maxHeartbeats 4000000
set_option maxRecDepth 8000


theorem inR0 : inR .i64 0 := by show IntKind.min .i64 ≤ 0 ∧ 0 ≤ IntKind.max .i64; decide

theorem cloneI_c (l : List Int) (hl : l.length ≤ 1000000) : FnG Tryd.prog 53 1 [.sl rInt l] [.star []] (PV.one) (fun v => [rowH 3 1 rInt l v]) := by
  refine FnG.mk Tryd.func53 rfl Tryd.ntmps53 rfl (by kernel_rfl) ?_
  intro B F0 a w F hB hG hS
  obtain ⟨F, hS⟩ := hS.nm [0] [0] rfl rfl
  refine wp_seq ?_
  refine region_q hS
    (cF rfl (oN (.c rfl)) trivial trivial
    Chain.nil)
    hB ?_
  clear hS; intro a w F hS
  obtain ⟨F, hS⟩ := hS.nm [2, 0] [0] rfl rfl
  try dsimp only [rInt] at hS
  refine then_n (wp_seq (wp_seq ?_))
  refine region_q hS
    (cF rfl (oM .t) r1 trivial
    (cF rfl (o_eql_nilsl Tryd.underlying30 .t) r1 trivial
    Chain.nil))
    hB ?_
  clear hS; intro a w F hS
  obtain ⟨F, hS⟩ := hS.nm [4, 2, 0] [0] rfl rfl
  try dsimp only [rInt] at hS
  obtain ⟨β4, hβ4, hS⟩ := hS.pickBool 4 rfl
  obtain ⟨F, hS⟩ := hS.nm [4, 2, 0] [0] rfl rfl
  refine then_n ?_
  refine cond_b hS rfl (fun hc0 => ?_) (fun hc0 => ?_)
  ·skip
   have hg : l = [] := hβ4 hc0
   refine wp_seq ?_
   refine region_q hS
     (cF rfl (oN (.c rfl)) trivial trivial
     Chain.nil)
     hB ?_
   clear hS; intro a w F hS
   obtain ⟨F, hS⟩ := hS.nm [2, 0] [0] rfl rfl
   try dsimp only [rInt] at hS
   refine then_n (wp_ret (then_r ?_))
   have hS := hS.fresh 1 rfl
   have hS := hS.turn 1 rfl (nilRow (T := 3) (sz := 1) (R := rInt))
   have hS := hS.turn 1 rfl (r' := RS.hp (rowH 3 1 rInt l (.slice none 0 0))) (fun _ _ _ _ h => by rw [hg]; exact h)
   refine ret_N1 (h' := fun v => rowH 3 1 rInt l v) hG hS rfl (.tmp rfl .nil) (.one .one) rfl
  have hg : l = [] ++ l := rfl
  refine wp_skip (then_n (wp_seq ?_))
  refine region_q hS
    (cF rfl (o_buildSlice0 (R := rInt) (sz := 1) 101 Tryd.underlying30 (by kernel_rfl)) trivial trivial
    (cF rfl (oM .t) r1 trivial
    (cF rfl (o_append (sz := 1) (bs := 8) 101 (.mk' Tryd.underlying30 (by kernel_rfl) (by kernel_rfl)) (by intro x; rfl) .same (.sl .t) (by simp only [List.length_append, List.length_nil]; omega) (by decide)) ⟨rfl, rfl, trivial⟩ ⟨rfl, trivial⟩
    (cF rfl (oN .t) r1 trivial
    Chain.nil))))
    hB ?_
  clear hS; intro a w F hS
  replace hS := hS.sub
  obtain ⟨F, hS⟩ := hS.nm [2] [101, 0] rfl rfl
  try dsimp only [RS.sub, SF.sub, CF.sub, csub, Anc.sub, List.map, stCells, xL, xM, Nat.reduceAdd, xD, xE, xT, xU, xC, xN, zCF, rInt] at hS
  generalize Act.tau a 7 = v7 at hS
  refine then_n (wp_ret ?_)
  obtain ⟨F, hS⟩ := hS.rename 101 1 rfl rfl
  have hS := hS.turn 1 rfl (r' := RS.hp (rowH 3 1 rInt l v7)) (fun _ _ _ _ h => by rw [hg]; exact h)
  refine ret_N1 (h' := fun v => rowH 3 1 rInt l v) hG hS rfl (.tmp rfl .nil) (.one .one) rfl

theorem reaches_in (b n : Nat) (q : List PairD) (last : List Int) (U : Nat) (v : Int) (hU : U < n) : FnG Tryd.prog 21 1 [.is (.pointer (some ⟨b, 0, none⟩)), .int .i64 (U : Int), .int .i64 v] [clH (.pointer (some ⟨b, 0, none⟩)) n q last] (.bool (reachB n q (U : Int) v)) (fun _ => [clH (.pointer (some ⟨b, 0, none⟩)) n q last]) := by
  refine FnG.mk Tryd.func21 rfl Tryd.ntmps21 rfl (by kernel_rfl) ?_
  intro B F0 a w F hB hG hS
  refine wp_seq ?_
  refine region_q hS
    (cF rfl (oN .cb) trivial trivial
    Chain.nil)
    hB ?_
  clear hS; intro a w F hS
  obtain ⟨F, hS⟩ := hS.nm [6, 2, 1, 0] [1, 0] rfl rfl
  try dsimp only [rV, mapC] at hS
  refine then_n (wp_seq ?_)
  refine part_first 3 hS (by kernel_rfl)
    (cG rfl (oM .t) r1 trivial
    (cG rfl (oM .t) r1 trivial
    (cG rfl (o_callG1 1 (node_c b n q last (U : Int)) Tryd.func44 rfl (by kernel_rfl) (Args.two .t .t)) r2 r1
    ChainN.nil)))
    (by kernel_rfl) (by rw [hB]; kernel_rfl) ?_
  clear hS; intro a w F hS
  obtain ⟨F, hS⟩ := hS.nm [9, 6, 2, 1, 0] [1, 0] rfl rfl
  try dsimp only [rV, mapC] at hS
  rw [decide_eq_true (show There n (U : Int) by omega)] at hS
  obtain ⟨sx, hS⟩ := hS.open_ex 1 rfl
  obtain ⟨hk, hS⟩ := hS.open_and 1 rfl
  dsimp only [cloParts] at hS
  obtain ⟨F, hS⟩ := hS.peel 1 2 rfl rfl
  obtain ⟨F, hS⟩ := hS.peel 1 3 rfl rfl
  obtain ⟨F, hS⟩ := hS.peel 1 4 rfl rfl
  obtain ⟨F, hS⟩ := hS.peel 1 5 rfl rfl
  obtain ⟨F, hS⟩ := hS.peel 1 6 rfl rfl
  obtain ⟨F, hS⟩ := hS.peel 1 7 rfl rfl
  have hhi := hk.hi
  have hnl := hk.nl
  have hrl := hk.rl
  have hinn := hk.inn
  obtain ⟨F, hS⟩ := hS.nm [9, 6, 2, 1, 0] [7, 6, 5, 4, 3, 2, 0] rfl rfl
  obtain ⟨F, hS⟩ := hS.takeAt (setP n) 7 61 (U) rfl rfl (famL_at (by omega))
  replace hS := hS.turn 61 rfl (r' := RS.hp (setH (Go.Gm.nth sx.rs U) n (reachQ q (U : Int)))) (fun _ _ _ _ h => h)
  obtain ⟨F, hS⟩ := hS.nm [9, 6, 2, 1, 0] [61, 7, 6, 5, 4, 3, 2, 0] rfl rfl
  refine part_last hS (by kernel_rfl)
    (cG rfl (oM .t) r1 trivial
    (ChainN.cons (Cert.run rfl rfl (rfl) (o_move .t (by rfl))) r2 trivial
    (ChainN.cons (Cert.run rfl rfl (rfl) (o_nilCheck 2 .is (by rfl))) r2 r1
    (ChainN.cons (Cert.run rfl rfl (rfl) (oF 2 2 .adr)) r2 r1
    (ChainN.cons (Cert.run rfl rfl (rfl) (oL false 1 2 .adr)) r2 r1
    (ChainN.cons (Cert.run rfl rfl (rfl) (o_move .t (by rfl))) r2 trivial
    (ChainN.cons (Cert.run rfl rfl (rfl) (o_indexAddr_row (sz := 1) 5 (.mk Tryd.underlying69 (by kernel_rfl)) .is .t (by omega) (by omega) (by rfl))) r3 r1
    (ChainN.cons (Cert.run rfl rfl (rfl) (o_load_row0 (ag := false) (sz' := 1) (sz := 1) 5 .t (by intro x; rfl) (by rw [Int.toNat_natCast]; omega) (by kernel_rfl) (by kernel_rfl) (by kernel_rfl))) r2 r1
    (ChainN.cons (Cert.run rfl rfl (rfl) (o_move .t (by rfl))) r2 trivial
    (ChainN.cons (Cert.run rfl rfl (rfl) (OpC.lend 61 [17] setH_lend (oP (hasS_c n (reachQ q (U : Int)) v) Tryd.func47 (Args.two .t .t)) ⟨rfl, trivial, trivial⟩ (.pv (fun _ _ _ _ h => h)) trivial (by rfl))) r3 r1
    (cG rfl (o_and2 .t (.conv .t (Ent.sure (by rfl)))) r2 trivial
    (cG rfl (oN .t) r1 trivial
    ChainN.nil))))))))))))
    (by kernel_rfl) (by rw [hB]; kernel_rfl) ?_
  clear hS; intro a w F hS
  obtain ⟨F, hS⟩ := hS.nm [6] [61, 7, 6, 5, 4, 3, 2, 0] rfl rfl
  try dsimp only [List.map, xD, xE, xT, xU, ldSF, rV, mapC] at hS
  try simp only [Int.toNat_natCast] at hS
  obtain ⟨F, hS⟩ := hS.putBack (setP n) (L := famL sx.rs (fun k => reachQ q (k : Int))) 7 61 (U) (famL_at (by omega)) rfl rfl rfl
  obtain ⟨F, hS⟩ := hS.nm [6] [7, 6, 5, 4, 3, 2, 0] rfl rfl
  refine then_n (wp_ret ?_)
  obtain ⟨F, hS⟩ := hS.nm [6] [7, 6, 5, 4, 3, 2, 0] rfl rfl
  have hS := hS.fresh 1 rfl
  obtain ⟨F, hS⟩ := hS.push 1 7 rfl rfl rfl (by kernel_rfl)
  obtain ⟨F, hS⟩ := hS.push 1 6 rfl rfl rfl (by kernel_rfl)
  obtain ⟨F, hS⟩ := hS.push 1 5 rfl rfl rfl (by kernel_rfl)
  obtain ⟨F, hS⟩ := hS.push 1 4 rfl rfl rfl (by kernel_rfl)
  obtain ⟨F, hS⟩ := hS.push 1 3 rfl rfl rfl (by kernel_rfl)
  obtain ⟨F, hS⟩ := hS.push 1 2 rfl rfl rfl (by kernel_rfl)
  have hS := hS.turn 1 rfl (r' := RS.hp (clH (.pointer (some ⟨b, 0, none⟩)) n q last)) (fun _ _ _ _ h => ⟨sx, hk, h⟩)
  obtain ⟨F, hS⟩ := hS.nm [6] [1, 0] rfl rfl
  refine ret_G1 hG hS rfl (.tmp rfl .nil) (.one (.bool (by unfold reachB; simp [hU]))) rfl

theorem reaches_out (b n : Nat) (q : List PairD) (last : List Int) (u v : Int) (hu : ¬ There n u) : FnG Tryd.prog 21 1 [.is (.pointer (some ⟨b, 0, none⟩)), .int .i64 u, .int .i64 v] [clH (.pointer (some ⟨b, 0, none⟩)) n q last] (.bool (reachB n q u v)) (fun _ => [clH (.pointer (some ⟨b, 0, none⟩)) n q last]) := by
  refine FnG.mk Tryd.func21 rfl Tryd.ntmps21 rfl (by kernel_rfl) ?_
  intro B F0 a w F hB hG hS
  refine wp_seq ?_
  refine region_q hS
    (cF rfl (oN .cb) trivial trivial
    Chain.nil)
    hB ?_
  clear hS; intro a w F hS
  obtain ⟨F, hS⟩ := hS.nm [6, 2, 1, 0] [1, 0] rfl rfl
  try dsimp only [rV, mapC] at hS
  refine then_n (wp_seq ?_)
  refine part_first 3 hS (by kernel_rfl)
    (cG rfl (oM .t) r1 trivial
    (cG rfl (oM .t) r1 trivial
    (cG rfl (o_callG1 1 (node_c b n q last u) Tryd.func44 rfl (by kernel_rfl) (Args.two .t .t)) r2 r1
    ChainN.nil)))
    (by kernel_rfl) (by rw [hB]; kernel_rfl) ?_
  clear hS; intro a w F hS
  obtain ⟨F, hS⟩ := hS.nm [9, 6, 2, 1, 0] [1, 0] rfl rfl
  try dsimp only [rV, mapC] at hS
  rw [decide_eq_false hu] at hS
  refine part_last hS (by kernel_rfl)
    (cG rfl (oM .t) r1 trivial
    (ChainN.cons (Cert.cond rfl rfl (fun h => (OpC.never (by simp at h)))) r1 trivial
    (ChainN.cons (Cert.cond rfl rfl (fun h => (OpC.never (by simp at h)))) r1 trivial
    (ChainN.cons (Cert.cond rfl rfl (fun h => (OpC.never (by simp at h)))) r1 trivial
    (ChainN.cons (Cert.cond rfl rfl (fun h => (OpC.never (by simp at h)))) r1 trivial
    (ChainN.cons (Cert.cond rfl rfl (fun h => (OpC.never (by simp at h)))) r1 trivial
    (ChainN.cons (Cert.cond rfl rfl (fun h => (OpC.never (by simp at h)))) r1 trivial
    (ChainN.cons (Cert.cond rfl rfl (fun h => (OpC.never (by simp at h)))) r1 trivial
    (ChainN.cons (Cert.cond rfl rfl (fun h => (OpC.never (by simp at h)))) r1 trivial
    (ChainN.cons (Cert.cond rfl rfl (fun h => (OpC.never (by simp at h)))) r1 trivial
    (cG rfl (o_and2 .t .t) r2 trivial
    (cG rfl (oN .t) r1 trivial
    ChainN.nil))))))))))))
    (by kernel_rfl) (by rw [hB]; kernel_rfl) ?_
  clear hS; intro a w F hS
  obtain ⟨F, hS⟩ := hS.nm [6] [1, 0] rfl rfl
  try dsimp only [List.map, xD, xE, xT, xU, ldSF, rV, mapC] at hS
  try simp only [Int.toNat_natCast] at hS
  refine then_n (wp_ret ?_)
  refine ret_G1 hG hS rfl (.tmp rfl .nil) (.one (.bool (by unfold reachB; rw [Bool.false_and, eq_comm, decide_eq_false_iff_not]; exact fun h => hu h.1))) rfl

theorem reaches_c (b n : Nat) (q : List PairD) (last : List Int) (u v : Int) : FnG Tryd.prog 21 1 [.is (.pointer (some ⟨b, 0, none⟩)), .int .i64 u, .int .i64 v] [clH (.pointer (some ⟨b, 0, none⟩)) n q last] (.bool (reachB n q u v)) (fun _ => [clH (.pointer (some ⟨b, 0, none⟩)) n q last]) := by
  by_cases h : There n u
  · obtain ⟨U, rfl⟩ := Int.eq_ofNat_of_zero_le h.1
    exact reaches_in b n q last U v (by omega)
  · exact reaches_out b n q last u v h

theorem reaches_nil (u v : Int) : FnP Tryd.prog 21 [.is (.pointer none), .int .i64 u, .int .i64 v] (.bool false) := by
  refine FnP.mk Tryd.func21 rfl Tryd.ntmps21 rfl ?_
  intro B a w F hB hfr hS
  refine wp_seq ?_
  refine region_q hS
    (cF rfl (oN .cb) trivial trivial
    Chain.nil)
    hB ?_
  clear hS; intro a w F hS
  obtain ⟨F, hS⟩ := hS.nm [6, 2, 1, 0] [0] rfl rfl
  refine then_n (wp_seq ?_)
  refine region_q hS
    (cF rfl (oM .t) r1 trivial
    (cF rfl (oM .t) r1 trivial
    (cF rfl (oP (node_nil u) Tryd.func44 (Args.two .t .t)) r2 trivial
    (cF rfl (oM .t) r1 trivial
    (Chain.cons (Cert.cond rfl rfl (fun h => (OpC.never (by simp at h)))) r1 trivial
    (Chain.cons (Cert.cond rfl rfl (fun h => (OpC.never (by simp at h)))) r1 trivial
    (Chain.cons (Cert.cond rfl rfl (fun h => (OpC.never (by simp at h)))) r1 trivial
    (Chain.cons (Cert.cond rfl rfl (fun h => (OpC.never (by simp at h)))) r1 trivial
    (Chain.cons (Cert.cond rfl rfl (fun h => (OpC.never (by simp at h)))) r1 trivial
    (Chain.cons (Cert.cond rfl rfl (fun h => (OpC.never (by simp at h)))) r1 trivial
    (Chain.cons (Cert.cond rfl rfl (fun h => (OpC.never (by simp at h)))) r1 trivial
    (Chain.cons (Cert.cond rfl rfl (fun h => (OpC.never (by simp at h)))) r1 trivial
    (Chain.cons (Cert.cond rfl rfl (fun h => (OpC.never (by simp at h)))) r1 trivial
    (cF rfl (o_and2 .t .t) r2 trivial
    (cF rfl (oN .t) r1 trivial
    Chain.nil)))))))))))))))
    hB ?_
  clear hS; intro a w F hS
  obtain ⟨F, hS⟩ := hS.nm [6] [0] rfl rfl
  try dsimp only [List.map, xD, xE, xT, xU, ldSF] at hS
  refine then_n (wp_ret ?_)
  refine ret_P hfr hS rfl (.tmp rfl .nil) (.one (.bool (by simp)))

theorem crow_c (b n : Nat) (q : List PairD) (last : List Int) (u : Int) : FnG Tryd.prog 20 1 [.is (.pointer (some ⟨b, 0, none⟩)), .int .i64 u] [clH (.pointer (some ⟨b, 0, none⟩)) n q last] (.sl rInt (rowB n q u)) (fun _ => [clH (.pointer (some ⟨b, 0, none⟩)) n q last]) := by
  refine FnG.mk Tryd.func20 rfl Tryd.ntmps20 rfl (by kernel_rfl) ?_
  intro B F0 a w F hB hG hS
  refine wp_seq ?_
  refine region_q hS
    (cF rfl (oN (.c rfl)) trivial trivial
    Chain.nil)
    hB ?_
  clear hS; intro a w F hS
  obtain ⟨F, hS⟩ := hS.nm [4, 1, 0] [1, 0] rfl rfl
  try dsimp only [rV, mapC] at hS
  refine then_n (wp_seq (wp_seq ?_))
  refine region_q hS
    (cF rfl (oM .t) r1 trivial
    (cF rfl (oM .t) r1 trivial
    (cF rfl (o_callG1 1 (node_c b n q last u) Tryd.func44 rfl (by kernel_rfl) (Args.two .t .t)) r2 r1
    (cF rfl (o_not .t) r1 trivial
    Chain.nil))))
    hB ?_
  clear hS; intro a w F hS
  obtain ⟨F, hS⟩ := hS.nm [8, 4, 1, 0] [1, 0] rfl rfl
  try dsimp only [rV, mapC] at hS
  refine then_n ?_
  refine cond_b hS rfl (fun hc0 => ?_) (fun hc0 => ?_)
  ·skip
   have hg : [] = rowB n q u := by unfold rowB; rw [if_neg (by unfold There; simp at hc0; omega)]
   refine wp_seq ?_
   refine region_q hS
     (cF rfl (oN (.c rfl)) trivial trivial
     Chain.nil)
     hB ?_
   clear hS; intro a w F hS
   obtain ⟨F, hS⟩ := hS.nm [4, 1, 0] [1, 0] rfl rfl
   try dsimp only [rV, mapC] at hS
   refine then_n (wp_ret (then_r ?_))
   refine ret_G1 hG hS rfl (.tmp rfl .nil) (.one (.trans .nilSl (.sl hg))) rfl
  have hth : There n u := by unfold There; simp at hc0; omega
  obtain ⟨U, rfl⟩ := Int.eq_ofNat_of_zero_le hth.1
  have hg : reachQ q (U : Int) = rowB n q (U : Int) := by unfold rowB; rw [if_pos hth]
  obtain ⟨sx, hS⟩ := hS.open_ex 1 rfl
  obtain ⟨hk, hS⟩ := hS.open_and 1 rfl
  dsimp only [cloParts] at hS
  obtain ⟨F, hS⟩ := hS.peel 1 2 rfl rfl
  obtain ⟨F, hS⟩ := hS.peel 1 3 rfl rfl
  obtain ⟨F, hS⟩ := hS.peel 1 4 rfl rfl
  obtain ⟨F, hS⟩ := hS.peel 1 5 rfl rfl
  obtain ⟨F, hS⟩ := hS.peel 1 6 rfl rfl
  obtain ⟨F, hS⟩ := hS.peel 1 7 rfl rfl
  have hhi := hk.hi
  have hnl := hk.nl
  have hrl := hk.rl
  have hinn := hk.inn
  obtain ⟨F, hS⟩ := hS.nm [8, 4, 1, 0] [7, 6, 5, 4, 3, 2, 0] rfl rfl
  obtain ⟨F, hS⟩ := hS.takeAt (setP n) 7 61 (U) rfl rfl (famL_at (by omega))
  replace hS := hS.turn 61 rfl (r' := RS.hp (setH (Go.Gm.nth sx.rs U) n (reachQ q (U : Int)))) (fun _ _ _ _ h => h)
  obtain ⟨F, hS⟩ := hS.nm [8, 4, 1, 0] [61, 7, 6, 5, 4, 3, 2, 0] rfl rfl
  refine wp_skip (then_n (wp_seq ?_))
  refine region_q hS
    (cF rfl (oM .t) r1 trivial
    (cF rfl (o_nilCheck 2 .is (by rfl)) r1 r1
    (cF rfl (oF 2 2 .adr) r1 r1
    (cF rfl (oL false 1 2 .adr) r1 r1
    (cF rfl (oM .t) r1 trivial
    (cF rfl (o_indexAddr_row (sz := 1) 5 (.mk Tryd.underlying69 (by kernel_rfl)) .is .t (by omega) (by omega) (by rfl)) r2 r1
    (cF rfl (o_load_row0 (ag := false) (sz' := 1) (sz := 1) 5 .t (by intro x; rfl) (by rw [Int.toNat_natCast]; omega) (by kernel_rfl) (by kernel_rfl) (by kernel_rfl)) r1 r1
    (cF rfl (o_callG1 61 (listV_c (Go.Gm.nth sx.rs U) n (reachQ q (U : Int))) Tryd.func54 rfl (by kernel_rfl) (Args.one .t)) r1 r1
    (cF rfl (oN .t) r1 trivial
    Chain.nil)))))))))
    hB ?_
  clear hS; intro a w F hS
  obtain ⟨F, hS⟩ := hS.nm [4] [61, 7, 6, 5, 4, 3, 2, 0] rfl rfl
  try dsimp only [List.map, xD, xE, xT, xU, ldSF, rV, mapC] at hS
  try simp only [Int.toNat_natCast] at hS
  obtain ⟨F, hS⟩ := hS.putBack (setP n) (L := famL sx.rs (fun k => reachQ q (k : Int))) 7 61 (U) (famL_at (by omega)) rfl rfl rfl
  obtain ⟨F, hS⟩ := hS.nm [4] [7, 6, 5, 4, 3, 2, 0] rfl rfl
  refine then_n (wp_ret ?_)
  obtain ⟨F, hS⟩ := hS.nm [4] [7, 6, 5, 4, 3, 2, 0] rfl rfl
  have hS := hS.fresh 1 rfl
  obtain ⟨F, hS⟩ := hS.push 1 7 rfl rfl rfl (by kernel_rfl)
  obtain ⟨F, hS⟩ := hS.push 1 6 rfl rfl rfl (by kernel_rfl)
  obtain ⟨F, hS⟩ := hS.push 1 5 rfl rfl rfl (by kernel_rfl)
  obtain ⟨F, hS⟩ := hS.push 1 4 rfl rfl rfl (by kernel_rfl)
  obtain ⟨F, hS⟩ := hS.push 1 3 rfl rfl rfl (by kernel_rfl)
  obtain ⟨F, hS⟩ := hS.push 1 2 rfl rfl rfl (by kernel_rfl)
  have hS := hS.turn 1 rfl (r' := RS.hp (clH (.pointer (some ⟨b, 0, none⟩)) n q last)) (fun _ _ _ _ h => ⟨sx, hk, h⟩)
  obtain ⟨F, hS⟩ := hS.nm [4] [1, 0] rfl rfl
  refine ret_G1 hG hS rfl (.tmp rfl .nil) (.one (.sl hg)) rfl

theorem crow_nil (u : Int) : FnP Tryd.prog 20 [.is (.pointer none), .int .i64 u] (.sl rInt []) := by
  refine FnP.mk Tryd.func20 rfl Tryd.ntmps20 rfl ?_
  intro B a w F hB hfr hS
  refine wp_seq ?_
  refine region_q hS
    (cF rfl (oN (.c rfl)) trivial trivial
    Chain.nil)
    hB ?_
  clear hS; intro a w F hS
  obtain ⟨F, hS⟩ := hS.nm [4, 1, 0] [0] rfl rfl
  refine then_n (wp_seq (wp_seq ?_))
  refine region_q hS
    (cF rfl (oM .t) r1 trivial
    (cF rfl (oM .t) r1 trivial
    (cF rfl (oP (node_nil u) Tryd.func44 (Args.two .t .t)) r2 trivial
    (cF rfl (o_not .t) r1 trivial
    Chain.nil))))
    hB ?_
  clear hS; intro a w F hS
  obtain ⟨F, hS⟩ := hS.nm [8, 4, 1, 0] [0] rfl rfl
  refine then_n ?_
  refine cond_b hS rfl (fun hc0 => ?_) (fun hc0 => ?_)
  ·skip
   refine wp_seq ?_
   refine region_q hS
     (cF rfl (oN (.c rfl)) trivial trivial
     Chain.nil)
     hB ?_
   clear hS; intro a w F hS
   obtain ⟨F, hS⟩ := hS.nm [4, 1, 0] [0] rfl rfl
   refine then_n (wp_ret (then_r ?_))
   refine ret_P hfr hS rfl (.tmp rfl .nil) (.one (.trans .nilSl (.sl rfl)))
  simp at hc0

theorem last_c (b n : Nat) (q : List PairD) (last : List Int) : FnG Tryd.prog 19 1 [.is (.pointer (some ⟨b, 0, none⟩))] [clH (.pointer (some ⟨b, 0, none⟩)) n q last] (.sl rInt last) (fun _ => [clH (.pointer (some ⟨b, 0, none⟩)) n q last]) := by
  refine FnG.mk Tryd.func19 rfl Tryd.ntmps19 rfl (by kernel_rfl) ?_
  intro B F0 a w F hB hG hS
  obtain ⟨sx, hS⟩ := hS.open_ex 1 rfl
  obtain ⟨hk, hS⟩ := hS.open_and 1 rfl
  dsimp only [cloParts] at hS
  obtain ⟨F, hS⟩ := hS.peel 1 2 rfl rfl
  obtain ⟨F, hS⟩ := hS.peel 1 3 rfl rfl
  obtain ⟨F, hS⟩ := hS.peel 1 4 rfl rfl
  obtain ⟨F, hS⟩ := hS.peel 1 5 rfl rfl
  obtain ⟨F, hS⟩ := hS.peel 1 6 rfl rfl
  obtain ⟨F, hS⟩ := hS.peel 1 7 rfl rfl
  have hhi := hk.hi
  have hnl := hk.nl
  have hrl := hk.rl
  have hinn := hk.inn
  obtain ⟨F, hS⟩ := hS.nm [0] [7, 6, 5, 4, 3, 2, 0] rfl rfl
  refine wp_seq ?_
  refine region_q hS
    (cF rfl (oN (.c rfl)) trivial trivial
    Chain.nil)
    hB ?_
  clear hS; intro a w F hS
  obtain ⟨F, hS⟩ := hS.nm [2, 0] [7, 6, 5, 4, 3, 2, 0] rfl rfl
  try dsimp only [rV, mapC] at hS
  refine then_n (wp_seq (wp_seq ?_))
  refine region_q hS
    (cF rfl (oM .t) r1 trivial
    (cF rfl (o_nil_eql _ Tryd.underlying23 rfl .t) r1 trivial
    Chain.nil))
    hB ?_
  clear hS; intro a w F hS
  obtain ⟨F, hS⟩ := hS.nm [4, 2, 0] [7, 6, 5, 4, 3, 2, 0] rfl rfl
  try dsimp only [rV, mapC] at hS
  refine then_n ?_
  refine cond_b hS rfl (fun hc0 => ?_) (fun hc0 => ?_)
  ·skip
   simp at hc0
  refine wp_skip (then_n (wp_seq ?_))
  replace hS := hS.fresh 101 rfl
  refine region_q hS
    (cF rfl (oM .t) r1 trivial
    (cF rfl (o_nilCheck 2 .is (by rfl)) r1 r1
    (cF rfl (oF 3 2 .adr) r1 r1
    (cF rfl (oL false 1 2 .adr) r1 r1
    (cF rfl (o_callN 101 (cloneI_c last (by have := hk.ll; omega)) Tryd.func53 rfl (by kernel_rfl) (Args.one .t) pvOne1) r1 r1
    (cF rfl (oN .t) r1 trivial
    Chain.nil))))))
    hB ?_
  clear hS; intro a w F hS
  replace hS := hS.sub
  obtain ⟨F, hS⟩ := hS.nm [2] [101, 7, 6, 5, 4, 3, 2, 0] rfl rfl
  try dsimp only [RS.sub, SF.sub, CF.sub, csub, Anc.sub, List.map, xD, xE, xT, xU, ldSF, rV, mapC] at hS
  generalize Act.tau a 9 = v9 at hS
  refine then_n (wp_ret ?_)
  obtain ⟨F, hS⟩ := hS.give 101 2 rfl rfl
  obtain ⟨F, hS⟩ := hS.nm [2] [7, 6, 5, 4, 3, 2, 0] rfl rfl
  have hS := hS.fresh 1 rfl
  obtain ⟨F, hS⟩ := hS.push 1 7 rfl rfl rfl (by kernel_rfl)
  obtain ⟨F, hS⟩ := hS.push 1 6 rfl rfl rfl (by kernel_rfl)
  obtain ⟨F, hS⟩ := hS.push 1 5 rfl rfl rfl (by kernel_rfl)
  obtain ⟨F, hS⟩ := hS.push 1 4 rfl rfl rfl (by kernel_rfl)
  obtain ⟨F, hS⟩ := hS.push 1 3 rfl rfl rfl (by kernel_rfl)
  obtain ⟨F, hS⟩ := hS.push 1 2 rfl rfl rfl (by kernel_rfl)
  have hS := hS.turn 1 rfl (r' := RS.hp (clH (.pointer (some ⟨b, 0, none⟩)) n q last)) (fun _ _ _ _ h => ⟨sx, hk, h⟩)
  obtain ⟨F, hS⟩ := hS.nm [2] [1, 0] rfl rfl
  refine ret_G1 hG hS rfl (.tmp rfl .nil) (.one (.sl rfl)) rfl

theorem last_nil  : FnP Tryd.prog 19 [.is (.pointer none)] (.sl rInt []) := by
  refine FnP.mk Tryd.func19 rfl Tryd.ntmps19 rfl ?_
  intro B a w F hB hfr hS
  refine wp_seq ?_
  refine region_q hS
    (cF rfl (oN (.c rfl)) trivial trivial
    Chain.nil)
    hB ?_
  clear hS; intro a w F hS
  obtain ⟨F, hS⟩ := hS.nm [2, 0] [0] rfl rfl
  refine then_n (wp_seq (wp_seq ?_))
  refine region_q hS
    (cF rfl (oM .t) r1 trivial
    (cF rfl (o_nil_eql _ Tryd.underlying23 rfl .t) r1 trivial
    Chain.nil))
    hB ?_
  clear hS; intro a w F hS
  obtain ⟨F, hS⟩ := hS.nm [4, 2, 0] [0] rfl rfl
  refine then_n ?_
  refine cond_b hS rfl (fun hc0 => ?_) (fun hc0 => ?_)
  ·skip
   refine wp_seq ?_
   refine region_q hS
     (cF rfl (oN (.c rfl)) trivial trivial
     Chain.nil)
     hB ?_
   clear hS; intro a w F hS
   obtain ⟨F, hS⟩ := hS.nm [2, 0] [0] rfl rfl
   refine then_n (wp_ret (then_r ?_))
   refine ret_P hfr hS rfl (.tmp rfl .nil) (.one (.trans .nilSl (.sl rfl)))
  simp at hc0

end Go.Proofs.YtpahapjcdldodaaDoor
