/- The closure: Add. No condition beyond those that each theorem says. -/
import Derived.Test.YtpahapjcdldodaaDoorCkX
namespace Go.Proofs.YtpahapjcdldodaaDoor
open Go Go.Gm
set_option linter.unusedVariables false
set_option linter.unusedSimpArgs false
set_option maxHeartbeats 4000000
set_option maxRecDepth 8000


theorem add_c (b n : Nat) (q : List PairD) (last : List Int) (u v : Int) (hl : q.length < 1000000) : FnG Tryd.prog 12 1 [.is (.pointer (some ⟨b, 0, none⟩)), .int .i64 u, .int .i64 v] [clH (.pointer (some ⟨b, 0, none⟩)) n q last] (.int .i64 (stepQ n q (⟨0, u, v⟩ : Deed4)).2) (fun _ => [clH (.pointer (some ⟨b, 0, none⟩)) n (stepQ n q (⟨0, u, v⟩ : Deed4)).1 (lastD n q last (⟨0, u, v⟩ : Deed4))]) := by
  refine FnG.mk Tryd.func12 rfl Tryd.ntmps12 rfl (by kernel_rfl) ?_
  intro B F0 a w F hB hG hS
  obtain ⟨hhi0, _⟩ := clH_ok (show (clH (.pointer (some ⟨b, 0, none⟩)) n q last).p _ _ _ from hS.r 1 _ rfl)
  refine wp_seq ?_
  refine region_q hS
    (cF rfl (oN (.ci (by kernel_rfl))) trivial trivial
    Chain.nil)
    hB ?_
  clear hS; intro a w F hS
  obtain ⟨F, hS⟩ := hS.nm [6, 2, 1, 0] [1, 0] rfl rfl
  try dsimp only [rV, mapC, rInt] at hS
  refine then_n (wp_seq (wp_block (wp_seq ?_)))
  refine region_q hS
    (cF rfl (oM .t) r1 trivial
    (cF rfl (oM .t) r1 trivial
    (cF rfl (o_callG1 1 (node_c b n q last u) Tryd.func44 rfl (by kernel_rfl) (Args.two .t .t)) r2 r1
    (cF rfl (o_not .t) r1 trivial
    (cF rfl (oM .t) r1 trivial
    (Chain.cons (Cert.cond rfl rfl (fun h => o_move .t (by rfl))) r2 trivial
    (Chain.cons (Cert.cond rfl rfl (fun h => o_move .t (by rfl))) r2 trivial
    (Chain.cons (Cert.condR rfl rfl (by rfl) (fun h => o_callG1 1 (node_c b n q last v) Tryd.func44 rfl (by kernel_rfl) (Args.two (.w h) (.w h)))) r3 r1
    (Chain.cons (Cert.cond rfl rfl (fun h => o_not (.w h))) r2 trivial
    (cF rfl (o_or2 .t .t) r2 trivial
    (cF rfl (oN .t) r1 trivial
    Chain.nil)))))))))))
    hB ?_
  clear hS; intro a w F hS
  obtain ⟨F, hS⟩ := hS.nm [9, 6, 2, 1, 0] [1, 0] rfl rfl
  try dsimp only [rV, mapC, rInt] at hS
  refine then_n ?_
  refine cond_b hS rfl (fun hc0 => ?_) (fun hc0 => ?_)
  ·skip
   have hg : stepQ n q (⟨0, u, v⟩ : Deed4) = (q, 1) := stepQ_out (by rintro ⟨h1, h2⟩; unfold There at h1 h2; simp at h1 h2 hc0; omega)
   refine wp_seq ?_
   refine region_q hS
     (cF rfl (oN (.ci (by kernel_rfl))) trivial trivial
     Chain.nil)
     hB ?_
   clear hS; intro a w F hS
   obtain ⟨F, hS⟩ := hS.nm [6, 2, 1, 0] [1, 0] rfl rfl
   try dsimp only [rV, mapC, rInt] at hS
   refine then_n (wp_ret (block_r (then_r ?_)))
   have hS := hS.turn 1 rfl (r' := RS.hp (clH (.pointer (some ⟨b, 0, none⟩)) n (stepQ n q (⟨0, u, v⟩ : Deed4)).1 (lastD n q last (⟨0, u, v⟩ : Deed4)))) (by unfold lastD; rw [hg]; exact fun _ _ _ _ h => h)
   refine ret_G1 hG hS rfl (.tmp rfl .nil) (.one (.int (by rw [hg]))) rfl
  have hth : There n u ∧ There n v := by unfold There; simp at hc0; omega
  obtain ⟨hthu, hthv⟩ := hth
  obtain ⟨U, rfl⟩ := Int.eq_ofNat_of_zero_le hthu.1
  obtain ⟨Z, rfl⟩ := Int.eq_ofNat_of_zero_le hthv.1
  have hUn : U < n := by have := hthu.2; omega
  have hZn : Z < n := by have := hthv.2; omega
  have hg : stepQ n q (⟨0, (U : Int), (Z : Int)⟩ : Deed4) = ((q ++ [(⟨(U : Int), (Z : Int)⟩ : PairD)]), 0) := by unfold stepQ; rw [if_pos ⟨hthu, hthv⟩, if_pos rfl]
  obtain ⟨sx, hS⟩ := hS.open_ex 1 rfl
  obtain ⟨hk, hS⟩ := hS.open_and 1 rfl
  dsimp only [cloParts] at hS
  obtain ⟨F, hS⟩ := hS.peel 1 2 rfl rfl
  obtain ⟨F, hS⟩ := hS.peel 1 3 rfl rfl
  obtain ⟨F, hS⟩ := hS.peel 1 4 rfl rfl
  obtain ⟨F, hS⟩ := hS.peel 1 5 rfl rfl
  obtain ⟨F, hS⟩ := hS.peel 1 6 rfl rfl
  obtain ⟨F, hS⟩ := hS.peel 1 7 rfl rfl
  have hhi := hk.hi
  have hnl := hk.nl
  have hrl := hk.rl
  have hinn := hk.inn
  obtain ⟨F, hS⟩ := hS.nm [9, 6, 2, 1, 0] [7, 6, 5, 4, 3, 2, 0] rfl rfl
  refine wp_seq ?_
  refine region_any (by kernel_rfl) hS (by kernel_rfl)
    (cF rfl (oM .t) r1 trivial
    (cF rfl (o_nilCheck 2 .is (by rfl)) r1 r1
    (cF rfl (oF 0 2 .adr) r1 r1
    (cF rfl (oL false 1 2 .adr) r1 r1
    (cF rfl (oM .t) r1 trivial
    (cF rfl (oM .t) r1 trivial
    (cF rfl (oP (arc_c _ _ (by omega) (by omega)) Tryd.func45 (Args.two .t .t)) r2 trivial
    (cF rfl (o_lookupG (ek := (fun c : Int => PV.int .i32 c)) (z0 := (0 : Int)) 3 Tryd.underlying68 (key_arr32 (enc := encP) (n := 2) (fun _ => rfl) encP_inj Tryd.underlying76 Tryd.underlying21 rfl) (by kernel_rfl) (fun _ _ => ⟨rfl, inR_i32 (by omega)⟩) .is (IsKeyOf.agg32 (enc := encP) (k := (⟨(U : Int), (Z : Int)⟩ : PairD)) .t rfl)) r2 r1
    (cF rfl (o_eql .t (.ci (by kernel_rfl))) r1 trivial
    (cF rfl (oN .t) r1 trivial
    Chain.nil))))))))))
    (by kernel_rfl) (by rw [hB]; kernel_rfl) ?_
  clear hS; intro a w F hS
  obtain ⟨F, hS⟩ := hS.nm [20, 6, 2, 1, 0] [7, 6, 5, 4, 3, 2, 0] rfl rfl
  try dsimp only [List.map, xD, xE, xT, xU, ldSF, rV, mapC, rInt] at hS
  have hql := hk.len
  rw [hk.cnt.get] at hS
  refine then_n ?_
  refine cond_b hS rfl (fun hc1 => ?_) (fun hc1 => ?_)
  ·skip
   have hcl : q.count (⟨(U : Int), (Z : Int)⟩ : PairD) ≤ q.length := List.count_le_length
   simp at hc1
   omega
  refine wp_skip (block_n (then_n (wp_seq ?_)))
  replace hS := hS.turnZ 3 (0 : Int) (⟨(U : Int), (Z : Int)⟩ : PairD) rfl
  refine region_anyS 3 11 (m1 := 1) (m2 := 2) (by kernel_rfl) hS (by kernel_rfl)
    (cF rfl (oM .t) r1 trivial
    (cF rfl (o_nilCheck 2 .is (by rfl)) r1 r1
    (cF rfl (oF 0 2 .adr) r1 r1
    (cF rfl (oL false 1 2 .adr) r1 r1
    (cF rfl (oM .t) r1 trivial
    (cF rfl (oM .t) r1 trivial
    (cF rfl (oP (arc_c _ _ (by omega) (by omega)) Tryd.func45 (Args.two .t .t)) r2 trivial
    (cF rfl (o_lookupZ (ek := (fun c : Int => PV.int .i32 c)) (z0 := (0 : Int)) 3 Tryd.underlying68 (key_arr32 (enc := encP) (n := 2) (fun _ => rfl) encP_inj Tryd.underlying76 Tryd.underlying21 rfl) (by kernel_rfl) (fun _ _ => ⟨rfl, inR_i32 (by omega)⟩) .is (IsKeyOf.agg32 (enc := encP) (k := (⟨(U : Int), (Z : Int)⟩ : PairD)) .t rfl)) r2 r1
    (cF rfl (o_add .t (.ci (by kernel_rfl))) r1 trivial
    (cF rfl (o_mapEntryZ (ek := (fun c : Int => PV.int .i32 c)) (z0 := (0 : Int)) 3 Tryd.underlying68 (key_arr32 (enc := encP) (n := 2) (fun _ => rfl) encP_inj Tryd.underlying76 Tryd.underlying21 rfl) (by kernel_rfl) (fun _ _ => ⟨rfl, inR_i32 (by omega)⟩) .is (IsKeyOf.agg32 (enc := encP) (k := (⟨(U : Int), (Z : Int)⟩ : PairD)) .t rfl) (by intros; first | rfl | simp [Anc.v, upd])) r2 r1
    (cF rfl (o_extract .t rfl) r1 trivial
    (cF rfl (o_entryStoreG 3 (gEns_born _ _ _) .is .t .t) r3 r1
    Chain.nil))))))))))))
    (by kernel_rfl) (by kernel_rfl) (by kernel_rfl) rfl rfl rfl (fun _ _ _ _ h => .inr h) (by rw [hB]; kernel_rfl) ?_
  clear hS; intro a w F hS
  obtain ⟨F, hS⟩ := hS.nm [6, 2, 1, 0] [7, 6, 5, 4, 3, 2, 0] rfl rfl
  try dsimp only [List.map, xD, xE, xT, xU, ldSF, rV, mapC, rInt] at hS
  have hcl : q.count (⟨(U : Int), (Z : Int)⟩ : PairD) ≤ q.length := List.count_le_length
  rw [hk.cnt.get, wrap_i32 (by omega)] at hS
  obtain ⟨es2, hes2⟩ : ∃ z, z = gSet (⟨(U : Int), (Z : Int)⟩ : PairD) (((q.count (⟨(U : Int), (Z : Int)⟩ : PairD) : Nat) : Int) + 1) (gEns 0 (⟨(U : Int), (Z : Int)⟩ : PairD) (sx.es, sx.ck)).1 := ⟨_, rfl⟩
  obtain ⟨ck2, hck2⟩ : ∃ z, z = (gEns 0 (⟨(U : Int), (Z : Int)⟩ : PairD) (sx.es, sx.ck)).2 := ⟨_, rfl⟩
  rw [← hes2, ← hck2] at hS
  have hcnt2 : CntQ (q ++ [(⟨(U : Int), (Z : Int)⟩ : PairD)]) es2 := by rw [hes2]; exact hk.cnt.inc
  refine then_n (wp_seq ?_)
  obtain ⟨F, hS⟩ := hS.takeAt (setP n) 6 60 (U) rfl rfl (famL_at (by omega))
  replace hS := hS.turn 60 rfl (r' := RS.hp (setH (Go.Gm.nth sx.ns U) n (nextQ q n (U : Int)))) (fun _ _ _ _ h => h)
  obtain ⟨F, hS⟩ := hS.nm [6, 2, 1, 0] [60, 7, 6, 5, 4, 3, 2, 0] rfl rfl
  refine region_q hS
    (cF rfl (oM .t) r1 trivial
    (cF rfl (o_nilCheck 2 .is (by rfl)) r1 r1
    (cF rfl (oF 1 2 .adr) r1 r1
    (cF rfl (oL false 1 2 .adr) r1 r1
    (cF rfl (oM .t) r1 trivial
    (cF rfl (o_indexAddr_row (sz := 1) 4 (.mk Tryd.underlying69 (by kernel_rfl)) .is .t (by omega) (by omega) (by rfl)) r2 r1
    (cF rfl (o_load_row0 (ag := false) (sz' := 1) (sz := 1) 4 .t (by intro x; rfl) (by rw [Int.toNat_natCast]; omega) (by kernel_rfl) (by kernel_rfl) (by kernel_rfl)) r1 r1
    (cF rfl (oM .t) r1 trivial
    (cF rfl (o_callG1 60 (setV_c (Go.Gm.nth sx.ns U) n (nextQ q n (U : Int)) (Z : Int) true) Tryd.func46 rfl (by kernel_rfl) (Args.three .t .t .cb)) r2 r1
    Chain.nil)))))))))
    hB ?_
  clear hS; intro a w F hS
  obtain ⟨F, hS⟩ := hS.nm [6, 2, 1, 0] [60, 7, 6, 5, 4, 3, 2, 0] rfl rfl
  try dsimp only [List.map, xD, xE, xT, xU, ldSF, rV, mapC, rInt] at hS
  try simp only [Int.toNat_natCast] at hS
  obtain ⟨F, hS⟩ := hS.putAt (setP n) (L := famL sx.ns (fun k => nextQ q n (k : Int))) (x := (Go.Gm.nth sx.ns U, (putL (nextQ q n (U : Int)) n (Z : Int) true))) 6 60 (U) (by rw [famL_len]; omega) rfl rfl rfl
  rw [famL_set (ps := sx.ns) (f := (fun k => nextQ q n (k : Int))) (g := (fun k => nextQ (q ++ [(⟨(U : Int), (Z : Int)⟩ : PairD)]) n (k : Int))) (k := U) (next_add_at (by omega)) (fun j _ hj => next_add_no (by omega))] at hS
  obtain ⟨F, hS⟩ := hS.nm [6, 2, 1, 0] [7, 6, 5, 4, 3, 2, 0] rfl rfl
  refine then_n (wp_seq ?_)
  refine region_q hS
    (cF rfl (oM .t) r1 trivial
    (cF rfl (o_nilCheck 2 .is (by rfl)) r1 r1
    (cF rfl (oF 3 2 .adr) r1 r1
    (cF rfl (o_store1 2 .adr (.c rfl) one_is (by kernel_rfl) (by kernel_rfl)) r1 r1
    Chain.nil))))
    hB ?_
  clear hS; intro a w F hS
  obtain ⟨F, hS⟩ := hS.nm [6, 2, 1, 0] [7, 6, 5, 4, 3, 2, 0] rfl rfl
  try dsimp only [List.map, stCells, xL, xM, Nat.reduceAdd, xD, xE, xT, xU, xC, xN, zCF, rV, mapC, rInt] at hS
  refine then_n (wp_seq (wp_seq ?_))
  obtain ⟨F, hS⟩ := hS.takeAt (setP n) 7 61 (U) rfl rfl (famL_at (by omega))
  replace hS := hS.turn 61 rfl (r' := RS.hp (setH (Go.Gm.nth sx.rs U) n (reachQ q (U : Int)))) (fun _ _ _ _ h => h)
  obtain ⟨F, hS⟩ := hS.nm [6, 2, 1, 0] [61, 7, 6, 5, 4, 3, 2, 0] rfl rfl
  refine region_q hS
    (cF rfl (oM .t) r1 trivial
    (cF rfl (o_nilCheck 2 .is (by rfl)) r1 r1
    (cF rfl (oF 2 2 .adr) r1 r1
    (cF rfl (oL false 1 2 .adr) r1 r1
    (cF rfl (oM .t) r1 trivial
    (cF rfl (o_indexAddr_row (sz := 1) 5 (.mk Tryd.underlying69 (by kernel_rfl)) .is .t (by omega) (by omega) (by rfl)) r2 r1
    (cF rfl (o_load_row0 (ag := false) (sz' := 1) (sz := 1) 5 .t (by intro x; rfl) (by rw [Int.toNat_natCast]; omega) (by kernel_rfl) (by kernel_rfl) (by kernel_rfl)) r1 r1
    (cF rfl (oM .t) r1 trivial
    (cF rfl (OpC.lend 61 [59] setH_lend (oP (hasS_c n (reachQ q (U : Int)) (Z : Int)) Tryd.func47 (Args.two .t .t)) ⟨rfl, trivial, trivial⟩ (.pv (fun _ _ _ _ h => h)) trivial (by rfl)) r2 r1
    Chain.nil)))))))))
    hB ?_
  clear hS; intro a w F hS
  obtain ⟨F, hS⟩ := hS.nm [61, 6, 2, 1, 0] [61, 7, 6, 5, 4, 3, 2, 0] rfl rfl
  try dsimp only [List.map, xD, xE, xT, xU, ldSF, rV, mapC, rInt] at hS
  try simp only [Int.toNat_natCast] at hS
  obtain ⟨F, hS⟩ := hS.putBack (setP n) (L := famL sx.rs (fun k => reachQ q (k : Int))) 7 61 (U) (famL_at (by omega)) rfl rfl rfl
  obtain ⟨F, hS⟩ := hS.nm [61, 6, 2, 1, 0] [7, 6, 5, 4, 3, 2, 0] rfl rfl
  refine then_n ?_
  refine cond_b hS rfl (fun hc2 => ?_) (fun hc2 => ?_)
  ·skip
   have hz : ∀ x, reachQ q x = reachQ (q ++ [(⟨(U : Int), (Z : Int)⟩ : PairD)]) x := fun x => (add_none (by simpa using hc2) x).symm
   replace hS := hS.turn 7 rfl (r' := famS (setP n) (famL sx.rs (fun k => reachQ (q ++ [(⟨(U : Int), (Z : Int)⟩ : PairD)]) (k : Int)))) (by rw [← famL_congr (ps := sx.rs) (f := (fun k => reachQ q (k : Int))) (g := (fun k => reachQ (q ++ [(⟨(U : Int), (Z : Int)⟩ : PairD)]) (k : Int))) (fun k _ => hz (k : Int))]; exact fun _ _ _ _ h => h)
   refine wp_seq ?_
   refine region_q hS
     (cF rfl (oN (.ci (by kernel_rfl))) trivial trivial
     Chain.nil)
     hB ?_
   clear hS; intro a w F hS
   obtain ⟨F, hS⟩ := hS.nm [6, 2, 1, 0] [7, 6, 5, 4, 3, 2, 0] rfl rfl
   try dsimp only [rV, mapC, rInt] at hS
   refine then_n (wp_ret (then_r ?_))
   replace hS := hS.fresh 50 rfl
   replace hS := hS.turn 50 rfl (nilRow (T := 3) (sz := 1) (R := rInt))
   obtain ⟨F, hS⟩ := hS.giveCell 50 2 3 rfl rfl rfl rfl rfl
   try dsimp only [List.set] at hS
   obtain ⟨F, hS⟩ := hS.nm [6, 2, 1, 0] [7, 6, 5, 4, 3, 2, 0] rfl rfl
   have hS := hS.fresh 1 rfl
   obtain ⟨F, hS⟩ := hS.push 1 7 rfl rfl rfl (by kernel_rfl)
   obtain ⟨F, hS⟩ := hS.push 1 6 rfl rfl rfl (by kernel_rfl)
   obtain ⟨F, hS⟩ := hS.push 1 5 rfl rfl rfl (by kernel_rfl)
   obtain ⟨F, hS⟩ := hS.push 1 4 rfl rfl rfl (by kernel_rfl)
   obtain ⟨F, hS⟩ := hS.push 1 3 rfl rfl rfl (by kernel_rfl)
   obtain ⟨F, hS⟩ := hS.push 1 2 rfl rfl rfl (by kernel_rfl)
   have hS := hS.turn 1 rfl (r' := RS.hp (clH (.pointer (some ⟨b, 0, none⟩)) n (q ++ [(⟨(U : Int), (Z : Int)⟩ : PairD)]) [])) (fun _ _ _ _ h => ⟨{ sx with es := es2, ck := ck2 }, ⟨Nat.zero_le _, hhi, hinn.add (by omega) (by omega), (by rw [List.length_append, List.length_singleton]; omega), hnl, hrl, hcnt2⟩, h⟩)
   obtain ⟨F, hS⟩ := hS.nm [6, 2, 1, 0] [1, 0] rfl rfl
   have hS := hS.turn 1 rfl (r' := RS.hp (clH (.pointer (some ⟨b, 0, none⟩)) n (stepQ n q (⟨0, (U : Int), (Z : Int)⟩ : Deed4)).1 (lastD n q last (⟨0, (U : Int), (Z : Int)⟩ : Deed4)))) (by unfold lastD; rw [hg]; exact (by rw [if_pos rfl, lastQ_none hz]; exact fun _ _ _ _ h => h))
   refine ret_G1 hG hS rfl (.tmp rfl .nil) (.one (.int (by rw [hg]))) rfl
  refine wp_skip (then_n (wp_seq ?_))
  obtain ⟨F, hS⟩ := hS.takeAt (setP n) 7 61 (Z) rfl rfl (famL_at (by omega))
  replace hS := hS.turn 61 rfl (r' := RS.hp (setH (Go.Gm.nth sx.rs Z) n (reachQ q (Z : Int)))) (fun _ _ _ _ h => h)
  obtain ⟨F, hS⟩ := hS.nm [61, 6, 2, 1, 0] [61, 7, 6, 5, 4, 3, 2, 0] rfl rfl
  replace hS := hS.fresh 63 rfl
  refine region_q hS
    (cF rfl (oM .t) r1 trivial
    (cF rfl (o_nilCheck 2 .is (by rfl)) r1 r1
    (cF rfl (oF 2 2 .adr) r1 r1
    (cF rfl (oL false 1 2 .adr) r1 r1
    (cF rfl (oM .t) r1 trivial
    (cF rfl (o_indexAddr_row (sz := 1) 5 (.mk Tryd.underlying69 (by kernel_rfl)) .is .t (by omega) (by omega) (by rfl)) r2 r1
    (cF rfl (o_load_row0 (ag := false) (sz' := 1) (sz := 1) 5 .t (by intro x; rfl) (by rw [Int.toNat_natCast]; omega) (by kernel_rfl) (by kernel_rfl) (by kernel_rfl)) r1 r1
    (cF rfl (o_callG2N 61 63 (copy_n (Go.Gm.nth sx.rs Z) n (reachQ q (Z : Int))) Tryd.func48 rfl (by kernel_rfl) rfl (Args.one .t) PV.ptr_one) r1 r2
    (cF rfl (oN .t) r1 trivial
    Chain.nil)))))))))
    hB ?_
  clear hS; intro a w F hS
  replace hS := hS.sub
  obtain ⟨F, hS⟩ := hS.nm [7, 6, 2, 1, 0] [63, 61, 7, 6, 5, 4, 3, 2, 0] rfl rfl
  try dsimp only [RS.sub, SF.sub, CF.sub, csub, Anc.sub, List.map, xD, xE, xT, xU, ldSF, rV, mapC, rInt] at hS
  generalize Act.tau a 69 = v69 at hS
  try simp only [Int.toNat_natCast] at hS
  replace hS := hS.turn 63 rfl (r' := RS.hp (setH v69 n (reachQ q (Z : Int)))) (fun _ _ _ _ h => h)
  obtain ⟨F, hS⟩ := hS.putBack (setP n) (L := famL sx.rs (fun k => reachQ q (k : Int))) 7 61 (Z) (famL_at (by omega)) rfl rfl rfl
  obtain ⟨F, hS⟩ := hS.nm [7, 6, 2, 1, 0] [63, 7, 6, 5, 4, 3, 2, 0] rfl rfl
  refine then_n (wp_seq ?_)
  refine region_q hS
    (cF rfl (oM .t) r1 trivial
    (cF rfl (oM .t) r1 trivial
    (cF rfl (o_callG1 63 (setV_c v69 n (reachQ q (Z : Int)) (Z : Int) true) Tryd.func46 rfl (by kernel_rfl) (Args.three .t .t .cb)) r2 r1
    Chain.nil)))
    hB ?_
  clear hS; intro a w F hS
  obtain ⟨F, hS⟩ := hS.nm [7, 6, 1, 0] [63, 7, 6, 5, 4, 3, 2, 0] rfl rfl
  try dsimp only [rV, mapC, rInt] at hS
  obtain ⟨mr, hmr⟩ : ∃ z, z = putL (reachQ q (Z : Int)) n (Z : Int) true := ⟨_, rfl⟩
  rw [← hmr] at hS
  refine then_n (wp_seq (wp_seq ?_))
  refine region_q hS
    (cF rfl (oM .t) r1 trivial
    (cF rfl (o_nilCheck 2 .is (by rfl)) r1 r1
    (cF rfl (oF 2 2 .adr) r1 r1
    (cF rfl (oL false 1 2 .adr) r1 r1
    (cF rfl (o_len_row 5 Tryd.underlying69 .is) r1 r1
    (cF rfl (oM (.ci (by kernel_rfl))) trivial trivial
    Chain.nil))))))
    hB ?_
  clear hS; intro a w F hS
  obtain ⟨F, hS⟩ := hS.nm [78, 77, 7, 6, 1, 0] [63, 7, 6, 5, 4, 3, 2, 0] rfl rfl
  try dsimp only [List.map, xD, xE, xT, xU, ldSF, rV, mapC, rInt] at hS
  refine then_n (wp_block ?_)
  replace hS := hS.fresh 50 rfl
  replace hS := hS.turn 50 rfl (nilRow (T := 3) (sz := 1) (R := rInt))
  replace hS := hS.turn 7 rfl (r' := famS (setP n) (famL sx.rs (mixQ q (q ++ [(⟨(U : Int), (Z : Int)⟩ : PairD)]) 0))) (by rw [mix_zero]; exact fun _ _ _ _ h => h)
  refine loop_keep (σ := (Nat) × (Value) × (List Int)) [0, 1, 6, 7, 77] [0, 3, 4, 5, 6, 63] (fun s => [(78, .pv (.int .i64 (s.1 : Int)))]) (fun s => [(2, .pt (.val (.pointer (some ⟨b, 0, none⟩))) 71 [.pv (.is sx.cv), .pv (.is sx.nv), .pv (.is sx.rv), .pv (.is s.2.1)]), (50, .ob (.val s.2.1) (rowH 3 1 rInt s.2.2)), (7, famS (setP n) (famL sx.rs (mixQ q (q ++ [(⟨(U : Int), (Z : Int)⟩ : PairD)]) s.1)))]) (fun s => s.1 ≤ sx.rs.length ∧ (s.2.2 = lastP q (q ++ [(⟨(U : Int), (Z : Int)⟩ : PairD)]) s.1)) (fun s => sx.rs.length - s.1) ((0), (.slice none 0 0), ([])) hS ⟨rfl, rfl, rfl, rfl, rfl, rfl, trivial⟩ ⟨rfl, rfl, rfl, rfl, rfl, rfl, rfl, rfl, rfl, trivial⟩ ⟨Nat.zero_le _, rfl⟩ ?_
  clear hS; intro s a w F hC hS
  obtain ⟨i, wv, ls⟩ := s
  try dsimp only at hC
  obtain ⟨F, hS⟩ := hS.nm [78, 77, 7, 6, 1, 0] [63, 50, 7, 6, 5, 4, 3, 2, 0] rfl rfl
  try dsimp only at hS
  obtain ⟨hi, hq⟩ := hC
  have hlsl : ls.length ≤ i := by rw [hq]; exact lastP_len _ _ _
  refine wp_seq ?_
  refine region_q hS
    (cF rfl (o_lss .t .t) r2 trivial
    Chain.nil)
    hB ?_
  clear hS; intro a w F hS
  obtain ⟨F, hS⟩ := hS.nm [79, 78, 77, 7, 6, 1, 0] [63, 50, 7, 6, 5, 4, 3, 2, 0] rfl rfl
  try dsimp only [rV, mapC, rInt] at hS
  refine then_n (wp_seq ?_)
  refine cond_b hS rfl (fun hc3 => ?_) (fun hc3 => ?_)
  ·skip
   have hil : i < sx.rs.length := by simp at hc3; omega
   refine wp_skip (then_n (wp_seq (wp_block (wp_seq ?_))))
   refine region_q hS
     (cF rfl (oM .t) r1 trivial
     (cF rfl (oN .t) r1 trivial
     Chain.nil))
     hB ?_
   clear hS; intro a w F hS
   obtain ⟨F, hS⟩ := hS.nm [80, 79, 78, 77, 8, 7, 6, 1, 0] [63, 50, 7, 6, 5, 4, 3, 2, 0] rfl rfl
   try dsimp only [rV, mapC, rInt] at hS
   refine then_n (wp_seq ?_)
   obtain ⟨F, hS⟩ := hS.takeAt (setP n) 7 61 (i) rfl rfl (famL_at (by omega))
   replace hS := hS.turn 61 rfl (r' := RS.hp (setH (Go.Gm.nth sx.rs i) n (reachQ q (i : Int)))) (fun _ _ _ _ h => by rw [← mix_at q (q ++ [(⟨(U : Int), (Z : Int)⟩ : PairD)]) i]; exact h)
   obtain ⟨F, hS⟩ := hS.nm [80, 79, 78, 77, 8, 7, 6, 1, 0] [63, 61, 50, 7, 6, 5, 4, 3, 2, 0] rfl rfl
   refine region_q hS
     (cF rfl (oM .t) r1 trivial
     (cF rfl (oM .t) r1 trivial
     (cF rfl (o_eql .t .t) r2 trivial
     (cF rfl (oM .t) r1 trivial
     (Chain.cons (Cert.cond rfl rfl (fun h => o_move .t (by rfl))) r2 trivial
     (Chain.cons (Cert.cond rfl rfl (fun h => o_nilCheck 2 (.w h .is) (by rfl))) r2 r1
     (Chain.cons (Cert.cond rfl rfl (fun h => o_fieldAddr (off := 2) 2 (.w h .adr) (by kernel_rfl) (by rfl))) r2 r1
     (Chain.cons (Cert.cond rfl rfl (fun h => o_load (ag := false) (sz := 1) 2 (.w h .adr) (by kernel_rfl) (by kernel_rfl) (by kernel_rfl) (by rfl))) r2 r1
     (Chain.cons (Cert.cond rfl rfl (fun h => o_move .t (by rfl))) r2 trivial
     (Chain.cons (Cert.cond rfl rfl (fun h => o_indexAddr_row (sz := 1) 5 (.mk Tryd.underlying69 (by kernel_rfl)) (.w h .is) (.w h) (by omega) (by omega) (by rfl))) r3 r1
     (Chain.cons (Cert.cond rfl rfl (fun h => o_load_row0 (ag := false) (sz' := 1) (sz := 1) 5 (.w h) (by intro x; rfl) (by rw [Int.toNat_natCast]; omega) (by kernel_rfl) (by kernel_rfl) (by kernel_rfl))) r2 r1
     (Chain.cons (Cert.cond rfl rfl (fun h => o_move .t (by rfl))) r2 trivial
     (Chain.cons (Cert.cond rfl rfl (fun h => OpC.lend 61 [91] setH_lend (oP (hasS_c n (reachQ q (i : Int)) (U : Int)) Tryd.func47 (Args.two (.w h) (.w h))) ⟨rfl, trivial, trivial⟩ (.pv (fun _ _ _ _ h => h)) trivial (by rfl))) r3 r1
     (cF rfl (o_or2 .t .t) r2 trivial
     (cF rfl (oM .t) r1 trivial
     (Chain.cons (Cert.cond rfl rfl (fun h => o_move .t (by rfl))) r2 trivial
     (Chain.cons (Cert.cond rfl rfl (fun h => o_nilCheck 2 (.w h .is) (by rfl))) r2 r1
     (Chain.cons (Cert.cond rfl rfl (fun h => o_fieldAddr (off := 2) 2 (.w h .adr) (by kernel_rfl) (by rfl))) r2 r1
     (Chain.cons (Cert.cond rfl rfl (fun h => o_load (ag := false) (sz := 1) 2 (.w h .adr) (by kernel_rfl) (by kernel_rfl) (by kernel_rfl) (by rfl))) r2 r1
     (Chain.cons (Cert.cond rfl rfl (fun h => o_move .t (by rfl))) r2 trivial
     (Chain.cons (Cert.cond rfl rfl (fun h => o_indexAddr_row (sz := 1) 5 (.mk Tryd.underlying69 (by kernel_rfl)) (.w h .is) (.w h) (by omega) (by omega) (by rfl))) r3 r1
     (Chain.cons (Cert.cond rfl rfl (fun h => o_load_row0 (ag := false) (sz' := 1) (sz := 1) 5 (.w h) (by intro x; rfl) (by rw [Int.toNat_natCast]; omega) (by kernel_rfl) (by kernel_rfl) (by kernel_rfl))) r2 r1
     (Chain.cons (Cert.cond rfl rfl (fun h => o_move .t (by rfl))) r2 trivial
     (Chain.cons (Cert.condS (pr2 := [(61, RS.hp (setH (Go.Gm.nth sx.rs i) n (if ((i : Int) = (U : Int) ∨ (U : Int) ∈ reachQ q (i : Int)) then orL (reachQ q (i : Int)) n mr else reachQ q (i : Int))))]) rfl rfl (by rfl) (fun hb => by rw [if_pos (by simpa using hb)]) (fun hb x hx => by rw [if_neg (by simpa using hb)] at hx; simp only [List.mem_singleton] at hx; subst hx; first | exact List.mem_cons_of_mem _ (List.mem_singleton.2 rfl) | simp) (fun h => OpC.lend 63 [103] setH_lend (o_callG1 61 (orV_c (Go.Gm.nth sx.rs i) n (reachQ q (i : Int)) n mr) Tryd.func49 rfl (by kernel_rfl) (Args.two (.w h) (.w h))) ⟨trivial, rfl, trivial⟩ (.pv (fun _ _ _ _ h => h)) ⟨(fun _ _ _ _ _ _ _ _ h e k => setH_free h e k), trivial⟩ (by rfl))) r3 r2
     (cF rfl (o_and2 .t .t) r2 trivial
     Chain.nil)))))))))))))))))))))))))
     hB ?_
   clear hS; intro a w F hS
   obtain ⟨F, hS⟩ := hS.nm [105, 104, 103, 102, 101, 100, 99, 98, 97, 96, 95, 94, 93, 92, 91, 90, 89, 88, 87, 86, 85, 84, 83, 82, 81, 80, 79, 78, 77, 8, 7, 6, 1, 0] [63, 61, 50, 7, 6, 5, 4, 3, 2, 0] rfl rfl
   try dsimp only [List.map, xD, xE, xT, xU, ldSF, rV, mapC, rInt] at hS
   try simp only [Int.toNat_natCast] at hS
   have hnew : (if ((i : Int) = (U : Int) ∨ (U : Int) ∈ reachQ q (i : Int)) then orL (reachQ q (i : Int)) n mr else reachQ q (i : Int)) = reachQ (q ++ [(⟨(U : Int), (Z : Int)⟩ : PairD)]) (i : Int) := by
     rw [hmr]
     by_cases hc1 : ((i : Int) = (U : Int) ∨ (U : Int) ∈ reachQ q (i : Int))
     · rw [if_pos hc1]; exact add_row hinn (by omega) (by omega) hc1
     · rw [if_neg hc1]; exact (add_row_no hc1).symm
   rw [hnew] at hS
   obtain ⟨F, hS⟩ := hS.putAt (setP n) (L := famL sx.rs (mixQ q (q ++ [(⟨(U : Int), (Z : Int)⟩ : PairD)]) i)) (x := (Go.Gm.nth sx.rs i, (reachQ (q ++ [(⟨(U : Int), (Z : Int)⟩ : PairD)]) (i : Int)))) 7 61 (i) (by rw [famL_len]; omega) rfl rfl rfl
   rw [famL_set (ps := sx.rs) (f := (mixQ q (q ++ [(⟨(U : Int), (Z : Int)⟩ : PairD)]) i)) (g := (mixQ q (q ++ [(⟨(U : Int), (Z : Int)⟩ : PairD)]) (i + 1))) (k := i) (mix_next q _) (fun j _ hj => mix_other q _ hj)] at hS
   obtain ⟨F, hS⟩ := hS.nm [105, 104, 103, 102, 101, 100, 99, 98, 97, 96, 95, 94, 93, 92, 91, 90, 89, 88, 87, 86, 85, 84, 83, 82, 81, 80, 79, 78, 77, 8, 7, 6, 1, 0] [63, 50, 7, 6, 5, 4, 3, 2, 0] rfl rfl
   refine then_n ?_
   refine cond_b hS rfl (fun hc4 => ?_) (fun hc4 => ?_)
   ·skip
    have hb2 := hc4
    rw [Bool.and_eq_true] at hb2
    have hc1 : ((i : Int) = (U : Int) ∨ (U : Int) ∈ reachQ q (i : Int)) := by simpa using hb2.1
    have hBq : ¬ reachQ q (i : Int) = reachQ (q ++ [(⟨(U : Int), (Z : Int)⟩ : PairD)]) (i : Int) := by rw [← hnew, if_pos hc1]; simpa using hb2.2
    refine region_q hS
      (cF rfl (oM .t) r1 trivial
      (cF rfl (oM .t) r1 trivial
      (cF rfl (o_nilCheck 2 .is (by rfl)) r1 r1
      (cF rfl (oF 3 2 .adr) r1 r1
      (cF rfl (oL false 1 2 .adr) r1 r1
      (cF rfl (oM .t) r1 trivial
      (cF rfl (o_buildSliceE (sz := 1) (zs := [.int .i64 0]) (r := [(0, .tmp 111)]) (l := [_]) Tryd.underlying30 (by kernel_rfl) (by kernel_rfl) (by kernel_rfl) (by kernel_rfl) rfl rfl (.one rfl .t one_int (by kernel_rfl) .nil) rfl) r1 trivial
      (cF rfl (o_append (sz := 1) (bs := 8) 50 (.mk' Tryd.underlying30 (by kernel_rfl) (by kernel_rfl)) (by intro x; rfl) .is (.arr (l' := [(i : Int)]) .t) (by simp only [List.length_append, List.length_cons, List.length_nil]; omega) (by decide)) ⟨rfl, rfl, trivial⟩ ⟨rfl, trivial⟩
      (cF rfl (o_nilCheck 2 .is (by rfl)) r1 r1
      (cF rfl (oF 3 2 .adr) r1 r1
      (cF rfl (o_storeS 2 .adr (by kernel_rfl) (by kernel_rfl)) r2 r1
      Chain.nil)))))))))))
      hB ?_
    clear hS; intro a w F hS
    replace hS := hS.sub
    obtain ⟨F, hS⟩ := hS.nm [115, 114, 113, 112, 111, 110, 109, 108, 107, 106, 105, 104, 103, 102, 101, 100, 99, 98, 97, 96, 95, 94, 93, 92, 91, 90, 89, 88, 87, 86, 85, 84, 83, 82, 81, 80, 79, 78, 77, 8, 7, 6, 1, 0] [63, 50, 7, 6, 5, 4, 3, 2, 0] rfl rfl
    try dsimp only [RS.sub, SF.sub, CF.sub, csub, Anc.sub, List.map, stCells, xL, xM, Nat.reduceAdd, xD, xE, xT, xU, xC, xN, zCF, ldSF, rV, mapC, rInt] at hS
    generalize Act.tau a 113 = v113 at hS
    refine block_n (then_n ?_)
    refine region_q hS
      (cF rfl (o_add .t (.ci (by kernel_rfl))) r1 trivial
      (cF rfl (oM .t) r1 trivial
      Chain.nil))
      hB ?_
    clear hS; intro a w F hS
    obtain ⟨F, hS⟩ := hS.nm [116, 115, 114, 113, 112, 111, 110, 109, 108, 107, 106, 105, 104, 103, 102, 101, 100, 99, 98, 97, 96, 95, 94, 93, 92, 91, 90, 89, 88, 87, 86, 85, 84, 83, 82, 81, 80, 79, 78, 77, 8, 7, 6, 1, 0] [63, 50, 7, 6, 5, 4, 3, 2, 0] rfl rfl
    try dsimp only [rV, mapC, rInt] at hS
    refine then_n ?_
    replace hS := hS.ent (i := 78) (s' := .pv (.int .i64 ((i + 1 : Nat) : Int))) rfl (.int (wrap_succ (by omega)))
    obtain ⟨F, hS⟩ := hS.nm [77, 7, 6, 1, 0, 78] [63, 6, 5, 4, 3, 0, 7, 50, 2] rfl rfl
    exact ⟨((i + 1), (v113), (ls ++ [(i : Int)])), F, ⟨by omega, (by rw [lastP_next, ← hq, if_neg hBq])⟩, hS, by omega⟩
   have hBq : reachQ q (i : Int) = reachQ (q ++ [(⟨(U : Int), (Z : Int)⟩ : PairD)]) (i : Int) := by
     have hb2 := hc4
     rw [Bool.and_eq_false_iff] at hb2
     by_cases hc1 : ((i : Int) = (U : Int) ∨ (U : Int) ∈ reachQ q (i : Int))
     · rw [← hnew, if_pos hc1]
       rcases hb2 with hb2 | hb2
       · exact absurd hc1 (by simpa using hb2)
       · simpa using hb2
     · rw [← hnew, if_neg hc1]
   refine wp_skip (block_n (then_n ?_))
   refine region_q hS
     (cF rfl (o_add .t (.ci (by kernel_rfl))) r1 trivial
     (cF rfl (oM .t) r1 trivial
     Chain.nil))
     hB ?_
   clear hS; intro a w F hS
   obtain ⟨F, hS⟩ := hS.nm [116, 105, 104, 103, 102, 101, 100, 99, 98, 97, 96, 95, 94, 93, 92, 91, 90, 89, 88, 87, 86, 85, 84, 83, 82, 81, 80, 79, 78, 77, 8, 7, 6, 1, 0] [63, 50, 7, 6, 5, 4, 3, 2, 0] rfl rfl
   try dsimp only [rV, mapC, rInt] at hS
   refine then_n ?_
   replace hS := hS.ent (i := 78) (s' := .pv (.int .i64 ((i + 1 : Nat) : Int))) rfl (.int (wrap_succ (by omega)))
   obtain ⟨F, hS⟩ := hS.nm [77, 7, 6, 1, 0, 78] [63, 6, 5, 4, 3, 0, 7, 50, 2] rfl rfl
   exact ⟨((i + 1), (wv), (ls)), F, ⟨by omega, (by rw [lastP_next, ← hq, if_pos hBq, List.append_nil])⟩, hS, by omega⟩
  have hil : i = sx.rs.length := by simp at hc3; omega
  have hls : ls = lastQ n q (q ++ [(⟨(U : Int), (Z : Int)⟩ : PairD)]) := by rw [hq, hil, hrl]; exact lastP_all n q _
  replace hS := hS.turn 7 rfl (r' := famS (setP n) (famL sx.rs (fun k => reachQ (q ++ [(⟨(U : Int), (Z : Int)⟩ : PairD)]) (k : Int)))) (by rw [← famL_congr (ps := sx.rs) (f := (mixQ q (q ++ [(⟨(U : Int), (Z : Int)⟩ : PairD)]) i)) (g := (fun k => reachQ (q ++ [(⟨(U : Int), (Z : Int)⟩ : PairD)]) (k : Int))) (fun k hk => by unfold mixQ; rw [if_pos (by omega)])]; exact fun _ _ _ _ h => h)
  refine wp_exit (then_x (then_x (block_x (then_n (wp_seq ?_)))))
  refine region_q hS
    (cF rfl (oN (.ci (by kernel_rfl))) trivial trivial
    Chain.nil)
    hB ?_
  clear hS; intro a w F hS
  obtain ⟨F, hS⟩ := hS.nm [6] [63, 50, 7, 6, 5, 4, 3, 2, 0] rfl rfl
  try dsimp only [rV, mapC, rInt] at hS
  refine then_n (wp_ret ?_)
  obtain ⟨F, hS⟩ := hS.giveCell 50 2 3 rfl rfl rfl rfl rfl
  try dsimp only [List.set] at hS
  obtain ⟨F, hS⟩ := hS.nm [6] [7, 6, 5, 4, 3, 2, 0] rfl rfl
  have hS := hS.fresh 1 rfl
  obtain ⟨F, hS⟩ := hS.push 1 7 rfl rfl rfl (by kernel_rfl)
  obtain ⟨F, hS⟩ := hS.push 1 6 rfl rfl rfl (by kernel_rfl)
  obtain ⟨F, hS⟩ := hS.push 1 5 rfl rfl rfl (by kernel_rfl)
  obtain ⟨F, hS⟩ := hS.push 1 4 rfl rfl rfl (by kernel_rfl)
  obtain ⟨F, hS⟩ := hS.push 1 3 rfl rfl rfl (by kernel_rfl)
  obtain ⟨F, hS⟩ := hS.push 1 2 rfl rfl rfl (by kernel_rfl)
  have hS := hS.turn 1 rfl (r' := RS.hp (clH (.pointer (some ⟨b, 0, none⟩)) n (q ++ [(⟨(U : Int), (Z : Int)⟩ : PairD)]) ls)) (fun _ _ _ _ h => ⟨{ sx with es := es2, ck := ck2 }, ⟨(by rw [hls]; exact lastQ_len n q _), hhi, hinn.add (by omega) (by omega), (by rw [List.length_append, List.length_singleton]; omega), hnl, hrl, hcnt2⟩, h⟩)
  obtain ⟨F, hS⟩ := hS.nm [6] [1, 0] rfl rfl
  have hS := hS.turn 1 rfl (r' := RS.hp (clH (.pointer (some ⟨b, 0, none⟩)) n (stepQ n q (⟨0, (U : Int), (Z : Int)⟩ : Deed4)).1 (lastD n q last (⟨0, (U : Int), (Z : Int)⟩ : Deed4)))) (by unfold lastD; rw [hg]; exact (by rw [if_pos rfl, ← hls]; exact fun _ _ _ _ h => h))
  refine ret_G1 hG hS rfl (.tmp rfl .nil) (.one (.int (by rw [hg]))) rfl

end Go.Proofs.YtpahapjcdldodaaDoor
