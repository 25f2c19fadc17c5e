/- The closure: Drop. No condition beyond those that each theorem says. -/
import Derived.Test.YtpahapjcdldodaaDoorCkB
namespace Go.Proofs.YtpahapjcdldodaaDoor
open Go Go.Gm
set_option linter.unusedVariables false
set_option linter.unusedSimpArgs false
set_option maxHeartbeats 4000000
set_option maxRecDepth 8000


theorem drop_c (b n : Nat) (q : List PairD) (last : List Int) (u v : Int) : FnG Tryd.prog 13 1 [.is (.pointer (some ⟨b, 0, none⟩)), .int .i64 u, .int .i64 v] [clH (.pointer (some ⟨b, 0, none⟩)) n q last] (.int .i64 (stepQ n q (⟨1, u, v⟩ : Deed4)).2) (fun _ => [clH (.pointer (some ⟨b, 0, none⟩)) n (stepQ n q (⟨1, u, v⟩ : Deed4)).1 (lastD n q last (⟨1, u, v⟩ : Deed4))]) := by
  refine FnG.mk Tryd.func13 rfl Tryd.ntmps13 rfl (by kernel_rfl) ?_
  intro B F0 a w F hB hG hS
  obtain ⟨hhi0, _⟩ := clH_ok (show (clH (.pointer (some ⟨b, 0, none⟩)) n q last).p _ _ _ from hS.r 1 _ rfl)
  refine wp_seq ?_
  refine region_q hS
    (cF rfl (oN (.ci (by kernel_rfl))) trivial trivial
    Chain.nil)
    hB ?_
  clear hS; intro a w F hS
  obtain ⟨F, hS⟩ := hS.nm [6, 2, 1, 0] [1, 0] rfl rfl
  try dsimp only [rV, mapC, rInt] at hS
  refine then_n (wp_seq (wp_block (wp_seq ?_)))
  refine region_q hS
    (cF rfl (oM .t) r1 trivial
    (cF rfl (oM .t) r1 trivial
    (cF rfl (o_callG1 1 (node_c b n q last u) Tryd.func44 rfl (by kernel_rfl) (Args.two .t .t)) r2 r1
    (cF rfl (o_not .t) r1 trivial
    (cF rfl (oM .t) r1 trivial
    (Chain.cons (Cert.cond rfl rfl (fun h => o_move .t (by rfl))) r2 trivial
    (Chain.cons (Cert.cond rfl rfl (fun h => o_move .t (by rfl))) r2 trivial
    (Chain.cons (Cert.condR rfl rfl (by rfl) (fun h => o_callG1 1 (node_c b n q last v) Tryd.func44 rfl (by kernel_rfl) (Args.two (.w h) (.w h)))) r3 r1
    (Chain.cons (Cert.cond rfl rfl (fun h => o_not (.w h))) r2 trivial
    (cF rfl (o_or2 .t .t) r2 trivial
    (cF rfl (oN .t) r1 trivial
    Chain.nil)))))))))))
    hB ?_
  clear hS; intro a w F hS
  obtain ⟨F, hS⟩ := hS.nm [10, 6, 2, 1, 0] [1, 0] rfl rfl
  try dsimp only [rV, mapC, rInt] at hS
  refine then_n ?_
  refine cond_b hS rfl (fun hc0 => ?_) (fun hc0 => ?_)
  ·skip
   have hg : stepQ n q (⟨1, u, v⟩ : Deed4) = (q, 1) := stepQ_out (by rintro ⟨h1, h2⟩; unfold There at h1 h2; simp at h1 h2 hc0; omega)
   refine wp_seq ?_
   refine region_q hS
     (cF rfl (oN (.ci (by kernel_rfl))) trivial trivial
     Chain.nil)
     hB ?_
   clear hS; intro a w F hS
   obtain ⟨F, hS⟩ := hS.nm [6, 2, 1, 0] [1, 0] rfl rfl
   try dsimp only [rV, mapC, rInt] at hS
   refine then_n (wp_ret (block_r (then_r ?_)))
   have hS := hS.turn 1 rfl (r' := RS.hp (clH (.pointer (some ⟨b, 0, none⟩)) n (stepQ n q (⟨1, u, v⟩ : Deed4)).1 (lastD n q last (⟨1, u, v⟩ : Deed4)))) (by unfold lastD; rw [hg]; exact fun _ _ _ _ h => h)
   refine ret_G1 hG hS rfl (.tmp rfl .nil) (.one (.int (by rw [hg]))) rfl
  have hth : There n u ∧ There n v := by unfold There; simp at hc0; omega
  obtain ⟨hthu, hthv⟩ := hth
  obtain ⟨U, rfl⟩ := Int.eq_ofNat_of_zero_le hthu.1
  obtain ⟨Z, rfl⟩ := Int.eq_ofNat_of_zero_le hthv.1
  have hUn : U < n := by have := hthu.2; omega
  have hZn : Z < n := by have := hthv.2; omega
  obtain ⟨sx, hS⟩ := hS.open_ex 1 rfl
  obtain ⟨hk, hS⟩ := hS.open_and 1 rfl
  dsimp only [cloParts] at hS
  obtain ⟨F, hS⟩ := hS.peel 1 2 rfl rfl
  obtain ⟨F, hS⟩ := hS.peel 1 3 rfl rfl
  obtain ⟨F, hS⟩ := hS.peel 1 4 rfl rfl
  obtain ⟨F, hS⟩ := hS.peel 1 5 rfl rfl
  obtain ⟨F, hS⟩ := hS.peel 1 6 rfl rfl
  obtain ⟨F, hS⟩ := hS.peel 1 7 rfl rfl
  have hhi := hk.hi
  have hnl := hk.nl
  have hrl := hk.rl
  have hinn := hk.inn
  obtain ⟨F, hS⟩ := hS.nm [10, 6, 2, 1, 0] [7, 6, 5, 4, 3, 2, 0] rfl rfl
  refine wp_seq ?_
  refine region_any (by kernel_rfl) hS (by kernel_rfl)
    (cF rfl (oM .t) r1 trivial
    (cF rfl (o_nilCheck 2 .is (by rfl)) r1 r1
    (cF rfl (oF 0 2 .adr) r1 r1
    (cF rfl (oL false 1 2 .adr) r1 r1
    (cF rfl (oM .t) r1 trivial
    (cF rfl (oM .t) r1 trivial
    (cF rfl (oP (arc_c _ _ (by omega) (by omega)) Tryd.func45 (Args.two .t .t)) r2 trivial
    (cF rfl (o_lookupG (ek := (fun c : Int => PV.int .i32 c)) (z0 := (0 : Int)) 3 Tryd.underlying68 (key_arr32 (enc := encP) (n := 2) (fun _ => rfl) encP_inj Tryd.underlying76 Tryd.underlying21 rfl) (by kernel_rfl) (fun _ _ => ⟨rfl, inR_i32 (by omega)⟩) .is (IsKeyOf.agg32 (enc := encP) (k := (⟨(U : Int), (Z : Int)⟩ : PairD)) .t rfl)) r2 r1
    (cF rfl (o_eql .t (.ci (by kernel_rfl))) r1 trivial
    (cF rfl (oN .t) r1 trivial
    Chain.nil))))))))))
    (by kernel_rfl) (by rw [hB]; kernel_rfl) ?_
  clear hS; intro a w F hS
  obtain ⟨F, hS⟩ := hS.nm [21, 6, 2, 1, 0] [7, 6, 5, 4, 3, 2, 0] rfl rfl
  try dsimp only [List.map, xD, xE, xT, xU, ldSF, rV, mapC, rInt] at hS
  have hql := hk.len
  rw [hk.cnt.get] at hS
  refine then_n ?_
  refine cond_b hS rfl (fun hc1 => ?_) (fun hc1 => ?_)
  ·skip
   have hc0 : q.count (⟨(U : Int), (Z : Int)⟩ : PairD) = 0 := by simp at hc1; simpa using hc1
   have hg : stepQ n q (⟨1, (U : Int), (Z : Int)⟩ : Deed4) = (q, 3) := by unfold stepQ; rw [if_pos ⟨hthu, hthv⟩, if_neg (show ¬ (1 : Int) = 0 by decide), if_pos hc0]
   refine wp_seq ?_
   refine region_q hS
     (cF rfl (oN (.ci (by kernel_rfl))) trivial trivial
     Chain.nil)
     hB ?_
   clear hS; intro a w F hS
   obtain ⟨F, hS⟩ := hS.nm [6, 2, 1, 0] [7, 6, 5, 4, 3, 2, 0] rfl rfl
   try dsimp only [rV, mapC, rInt] at hS
   refine then_n (wp_ret (block_r (then_r ?_)))
   obtain ⟨F, hS⟩ := hS.nm [6, 2, 1, 0] [7, 6, 5, 4, 3, 2, 0] rfl rfl
   have hS := hS.fresh 1 rfl
   obtain ⟨F, hS⟩ := hS.push 1 7 rfl rfl rfl (by kernel_rfl)
   obtain ⟨F, hS⟩ := hS.push 1 6 rfl rfl rfl (by kernel_rfl)
   obtain ⟨F, hS⟩ := hS.push 1 5 rfl rfl rfl (by kernel_rfl)
   obtain ⟨F, hS⟩ := hS.push 1 4 rfl rfl rfl (by kernel_rfl)
   obtain ⟨F, hS⟩ := hS.push 1 3 rfl rfl rfl (by kernel_rfl)
   obtain ⟨F, hS⟩ := hS.push 1 2 rfl rfl rfl (by kernel_rfl)
   have hS := hS.turn 1 rfl (r' := RS.hp (clH (.pointer (some ⟨b, 0, none⟩)) n q last)) (fun _ _ _ _ h => ⟨sx, hk, h⟩)
   obtain ⟨F, hS⟩ := hS.nm [6, 2, 1, 0] [1, 0] rfl rfl
   have hS := hS.turn 1 rfl (r' := RS.hp (clH (.pointer (some ⟨b, 0, none⟩)) n (stepQ n q (⟨1, (U : Int), (Z : Int)⟩ : Deed4)).1 (lastD n q last (⟨1, (U : Int), (Z : Int)⟩ : Deed4)))) (by unfold lastD; rw [hg]; exact fun _ _ _ _ h => h)
   refine ret_G1 hG hS rfl (.tmp rfl .nil) (.one (.int (by rw [hg]))) rfl
  have hc0 : ¬ q.count (⟨(U : Int), (Z : Int)⟩ : PairD) = 0 := by simp at hc1; simpa using hc1
  have hcl : q.count (⟨(U : Int), (Z : Int)⟩ : PairD) ≤ q.length := List.count_le_length
  have hg : stepQ n q (⟨1, (U : Int), (Z : Int)⟩ : Deed4) = ((q.erase (⟨(U : Int), (Z : Int)⟩ : PairD)), 0) := by unfold stepQ; rw [if_pos ⟨hthu, hthv⟩, if_neg (show ¬ (1 : Int) = 0 by decide), if_neg (by omega)]
  have hin : (⟨(U : Int), (Z : Int)⟩ : PairD) ∈ q := List.count_pos_iff.1 (by omega)
  refine wp_skip (block_n (then_n (wp_seq ?_)))
  refine region_q hS
    (cF rfl (oM .t) r1 trivial
    (cF rfl (o_nilCheck 2 .is (by rfl)) r1 r1
    (cF rfl (oF 3 2 .adr) r1 r1
    (cF rfl (o_store1 2 .adr (.c rfl) one_is (by kernel_rfl) (by kernel_rfl)) r1 r1
    Chain.nil))))
    hB ?_
  clear hS; intro a w F hS
  obtain ⟨F, hS⟩ := hS.nm [6, 2, 1, 0] [7, 6, 5, 4, 3, 2, 0] rfl rfl
  try dsimp only [List.map, stCells, xL, xM, Nat.reduceAdd, xD, xE, xT, xU, xC, xN, zCF, rV, mapC, rInt] at hS
  refine then_n (wp_seq ?_)
  replace hS := hS.turnZ 3 (0 : Int) (⟨(U : Int), (Z : Int)⟩ : PairD) rfl
  refine region_anyS 3 11 (m1 := 1) (m2 := 2) (by kernel_rfl) hS (by kernel_rfl)
    (cF rfl (oM .t) r1 trivial
    (cF rfl (o_nilCheck 2 .is (by rfl)) r1 r1
    (cF rfl (oF 0 2 .adr) r1 r1
    (cF rfl (oL false 1 2 .adr) r1 r1
    (cF rfl (oM .t) r1 trivial
    (cF rfl (oM .t) r1 trivial
    (cF rfl (oP (arc_c _ _ (by omega) (by omega)) Tryd.func45 (Args.two .t .t)) r2 trivial
    (cF rfl (o_lookupZ (ek := (fun c : Int => PV.int .i32 c)) (z0 := (0 : Int)) 3 Tryd.underlying68 (key_arr32 (enc := encP) (n := 2) (fun _ => rfl) encP_inj Tryd.underlying76 Tryd.underlying21 rfl) (by kernel_rfl) (fun _ _ => ⟨rfl, inR_i32 (by omega)⟩) .is (IsKeyOf.agg32 (enc := encP) (k := (⟨(U : Int), (Z : Int)⟩ : PairD)) .t rfl)) r2 r1
    (cF rfl (o_sub .t (.ci (by kernel_rfl))) r1 trivial
    (cF rfl (o_mapEntryZ (ek := (fun c : Int => PV.int .i32 c)) (z0 := (0 : Int)) 3 Tryd.underlying68 (key_arr32 (enc := encP) (n := 2) (fun _ => rfl) encP_inj Tryd.underlying76 Tryd.underlying21 rfl) (by kernel_rfl) (fun _ _ => ⟨rfl, inR_i32 (by omega)⟩) .is (IsKeyOf.agg32 (enc := encP) (k := (⟨(U : Int), (Z : Int)⟩ : PairD)) .t rfl) (by intros; first | rfl | simp [Anc.v, upd])) r2 r1
    (cF rfl (o_extract .t rfl) r1 trivial
    (cF rfl (o_entryStoreG 3 (gEns_born _ _ _) .is .t .t) r3 r1
    Chain.nil))))))))))))
    (by kernel_rfl) (by kernel_rfl) (by kernel_rfl) rfl rfl rfl (fun _ _ _ _ h => .inr h) (by rw [hB]; kernel_rfl) ?_
  clear hS; intro a w F hS
  obtain ⟨F, hS⟩ := hS.nm [6, 2, 1, 0] [7, 6, 5, 4, 3, 2, 0] rfl rfl
  try dsimp only [List.map, xD, xE, xT, xU, ldSF, rV, mapC, rInt] at hS
  rw [hk.cnt.get, wrap_i32 (by omega)] at hS
  obtain ⟨es2, hes2⟩ : ∃ z, z = gSet (⟨(U : Int), (Z : Int)⟩ : PairD) (((q.count (⟨(U : Int), (Z : Int)⟩ : PairD) : Nat) : Int) - 1) (gEns 0 (⟨(U : Int), (Z : Int)⟩ : PairD) (sx.es, sx.ck)).1 := ⟨_, rfl⟩
  obtain ⟨ck2, hck2⟩ : ∃ z, z = (gEns 0 (⟨(U : Int), (Z : Int)⟩ : PairD) (sx.es, sx.ck)).2 := ⟨_, rfl⟩
  rw [← hes2, ← hck2] at hS
  have hgt : (gGet (⟨(U : Int), (Z : Int)⟩ : PairD) es2).getD 0 = ((q.count (⟨(U : Int), (Z : Int)⟩ : PairD) : Nat) : Int) - 1 := by rw [hes2, gGet_entry (sx.es, sx.ck), if_pos rfl]; rfl
  refine then_n (wp_seq (wp_seq ?_))
  refine region_any (by kernel_rfl) hS (by kernel_rfl)
    (cF rfl (oM .t) r1 trivial
    (cF rfl (o_nilCheck 2 .is (by rfl)) r1 r1
    (cF rfl (oF 0 2 .adr) r1 r1
    (cF rfl (oL false 1 2 .adr) r1 r1
    (cF rfl (oM .t) r1 trivial
    (cF rfl (oM .t) r1 trivial
    (cF rfl (oP (arc_c _ _ (by omega) (by omega)) Tryd.func45 (Args.two .t .t)) r2 trivial
    (cF rfl (o_lookupG (ek := (fun c : Int => PV.int .i32 c)) (z0 := (0 : Int)) 3 Tryd.underlying68 (key_arr32 (enc := encP) (n := 2) (fun _ => rfl) encP_inj Tryd.underlying76 Tryd.underlying21 rfl) (by kernel_rfl) (fun _ _ => ⟨rfl, inR_i32 (by omega)⟩) .is (IsKeyOf.agg32 (enc := encP) (k := (⟨(U : Int), (Z : Int)⟩ : PairD)) .t rfl)) r2 r1
    (cF rfl (o_gtr .t (.ci (by kernel_rfl))) r1 trivial
    Chain.nil)))))))))
    (by kernel_rfl) (by rw [hB]; kernel_rfl) ?_
  clear hS; intro a w F hS
  obtain ⟨F, hS⟩ := hS.nm [53, 6, 2, 1, 0] [7, 6, 5, 4, 3, 2, 0] rfl rfl
  try dsimp only [List.map, xD, xE, xT, xU, ldSF, rV, mapC, rInt] at hS
  rw [hgt] at hS
  refine then_n ?_
  refine cond_b hS rfl (fun hc2 => ?_) (fun hc2 => ?_)
  ·skip
   have hc2 : 1 < q.count (⟨(U : Int), (Z : Int)⟩ : PairD) := by simp at hc2; omega
   have hmo : ∀ p, p ∈ (q.erase (⟨(U : Int), (Z : Int)⟩ : PairD)) ↔ p ∈ q := fun p => drop_more (List.count_pos_iff.1 (by rw [List.count_erase_self]; omega)) p
   have hz : ∀ x, reachQ q x = reachQ (q.erase (⟨(U : Int), (Z : Int)⟩ : PairD)) x := fun x => (reachQ_congr hmo x).symm
   have hzn : ∀ x, nextQ q n x = nextQ (q.erase (⟨(U : Int), (Z : Int)⟩ : PairD)) n x := fun x => nextQ_congr fun w => (hmo _).symm
   have hcnt2 : CntQ (q.erase (⟨(U : Int), (Z : Int)⟩ : PairD)) es2 := by rw [hes2]; exact hk.cnt.dec hc2
   replace hS := hS.turn 7 rfl (r' := famS (setP n) (famL sx.rs (fun k => reachQ (q.erase (⟨(U : Int), (Z : Int)⟩ : PairD)) (k : Int)))) (by rw [← famL_congr (ps := sx.rs) (f := (fun k => reachQ q (k : Int))) (g := (fun k => reachQ (q.erase (⟨(U : Int), (Z : Int)⟩ : PairD)) (k : Int))) (fun k _ => hz (k : Int))]; exact fun _ _ _ _ h => h)
   replace hS := hS.turn 6 rfl (r' := famS (setP n) (famL sx.ns (fun k => nextQ (q.erase (⟨(U : Int), (Z : Int)⟩ : PairD)) n (k : Int)))) (by rw [← famL_congr (ps := sx.ns) (f := (fun k => nextQ q n (k : Int))) (g := (fun k => nextQ (q.erase (⟨(U : Int), (Z : Int)⟩ : PairD)) n (k : Int))) (fun k _ => hzn (k : Int))]; exact fun _ _ _ _ h => h)
   refine wp_seq ?_
   refine region_q hS
     (cF rfl (oN (.ci (by kernel_rfl))) trivial trivial
     Chain.nil)
     hB ?_
   clear hS; intro a w F hS
   obtain ⟨F, hS⟩ := hS.nm [6, 2, 1, 0] [7, 6, 5, 4, 3, 2, 0] rfl rfl
   try dsimp only [rV, mapC, rInt] at hS
   refine then_n (wp_ret (then_r ?_))
   replace hS := hS.fresh 50 rfl
   replace hS := hS.turn 50 rfl (nilRow (T := 3) (sz := 1) (R := rInt))
   obtain ⟨F, hS⟩ := hS.giveCell 50 2 3 rfl rfl rfl rfl rfl
   try dsimp only [List.set] at hS
   obtain ⟨F, hS⟩ := hS.nm [6, 2, 1, 0] [7, 6, 5, 4, 3, 2, 0] rfl rfl
   have hS := hS.fresh 1 rfl
   obtain ⟨F, hS⟩ := hS.push 1 7 rfl rfl rfl (by kernel_rfl)
   obtain ⟨F, hS⟩ := hS.push 1 6 rfl rfl rfl (by kernel_rfl)
   obtain ⟨F, hS⟩ := hS.push 1 5 rfl rfl rfl (by kernel_rfl)
   obtain ⟨F, hS⟩ := hS.push 1 4 rfl rfl rfl (by kernel_rfl)
   obtain ⟨F, hS⟩ := hS.push 1 3 rfl rfl rfl (by kernel_rfl)
   obtain ⟨F, hS⟩ := hS.push 1 2 rfl rfl rfl (by kernel_rfl)
   have hS := hS.turn 1 rfl (r' := RS.hp (clH (.pointer (some ⟨b, 0, none⟩)) n (q.erase (⟨(U : Int), (Z : Int)⟩ : PairD)) [])) (fun _ _ _ _ h => ⟨{ sx with es := es2, ck := ck2 }, ⟨Nat.zero_le _, hhi, hinn.erase, (by have := List.length_erase_le (a := (⟨(U : Int), (Z : Int)⟩ : PairD)) (l := q); have := hk.len; omega), hnl, hrl, hcnt2⟩, h⟩)
   obtain ⟨F, hS⟩ := hS.nm [6, 2, 1, 0] [1, 0] rfl rfl
   have hS := hS.turn 1 rfl (r' := RS.hp (clH (.pointer (some ⟨b, 0, none⟩)) n (stepQ n q (⟨1, (U : Int), (Z : Int)⟩ : Deed4)).1 (lastD n q last (⟨1, (U : Int), (Z : Int)⟩ : Deed4)))) (by unfold lastD; rw [hg]; exact (by rw [if_pos rfl, lastQ_none hz]; exact fun _ _ _ _ h => h))
   refine ret_G1 hG hS rfl (.tmp rfl .nil) (.one (.int (by rw [hg]))) rfl
  have hc1 : q.count (⟨(U : Int), (Z : Int)⟩ : PairD) = 1 := by simp at hc2; omega
  refine wp_skip (then_n (wp_seq ?_))
  refine region_any (by kernel_rfl) hS (by kernel_rfl)
    (cF rfl (oM .t) r1 trivial
    (cF rfl (o_nilCheck 2 .is (by rfl)) r1 r1
    (cF rfl (oF 0 2 .adr) r1 r1
    (cF rfl (oL false 1 2 .adr) r1 r1
    (cF rfl (oM .t) r1 trivial
    (cF rfl (oM .t) r1 trivial
    (cF rfl (oP (arc_c _ _ (by omega) (by omega)) Tryd.func45 (Args.two .t .t)) r2 trivial
    (cF rfl (o_deleteG 3 Tryd.underlying68 (key_arr32 (enc := encP) (n := 2) (fun _ => rfl) encP_inj Tryd.underlying76 Tryd.underlying21 rfl) .is (IsKeyOf.agg32 (enc := encP) (k := (⟨(U : Int), (Z : Int)⟩ : PairD)) .t rfl)) r2 r1
    Chain.nil))))))))
    (by kernel_rfl) (by rw [hB]; kernel_rfl) ?_
  clear hS; intro a w F hS
  obtain ⟨F, hS⟩ := hS.nm [6, 2, 1, 0] [7, 6, 5, 4, 3, 2, 0] rfl rfl
  try dsimp only [List.map, xD, xE, xT, xU, ldSF, rV, mapC, rInt] at hS
  obtain ⟨es3, hes3⟩ : ∃ z, z = gDel (⟨(U : Int), (Z : Int)⟩ : PairD) es2 := ⟨_, rfl⟩
  rw [← hes3] at hS
  have hcnt2 : CntQ (q.erase (⟨(U : Int), (Z : Int)⟩ : PairD)) es3 := by rw [hes3, hes2]; exact hk.cnt.del hc1
  refine then_n (wp_seq ?_)
  obtain ⟨F, hS⟩ := hS.takeAt (setP n) 6 60 (U) rfl rfl (famL_at (by omega))
  replace hS := hS.turn 60 rfl (r' := RS.hp (setH (Go.Gm.nth sx.ns U) n (nextQ q n (U : Int)))) (fun _ _ _ _ h => h)
  obtain ⟨F, hS⟩ := hS.nm [6, 2, 1, 0] [60, 7, 6, 5, 4, 3, 2, 0] rfl rfl
  refine region_q hS
    (cF rfl (oM .t) r1 trivial
    (cF rfl (o_nilCheck 2 .is (by rfl)) r1 r1
    (cF rfl (oF 1 2 .adr) r1 r1
    (cF rfl (oL false 1 2 .adr) r1 r1
    (cF rfl (oM .t) r1 trivial
    (cF rfl (o_indexAddr_row (sz := 1) 4 (.mk Tryd.underlying69 (by kernel_rfl)) .is .t (by omega) (by omega) (by rfl)) r2 r1
    (cF rfl (o_load_row0 (ag := false) (sz' := 1) (sz := 1) 4 .t (by intro x; rfl) (by rw [Int.toNat_natCast]; omega) (by kernel_rfl) (by kernel_rfl) (by kernel_rfl)) r1 r1
    (cF rfl (oM .t) r1 trivial
    (cF rfl (o_callG1 60 (setV_c (Go.Gm.nth sx.ns U) n (nextQ q n (U : Int)) (Z : Int) false) Tryd.func46 rfl (by kernel_rfl) (Args.three .t .t .cb)) r2 r1
    Chain.nil)))))))))
    hB ?_
  clear hS; intro a w F hS
  obtain ⟨F, hS⟩ := hS.nm [6, 1, 0] [60, 7, 6, 5, 4, 3, 2, 0] rfl rfl
  try dsimp only [List.map, xD, xE, xT, xU, ldSF, rV, mapC, rInt] at hS
  try simp only [Int.toNat_natCast] at hS
  obtain ⟨F, hS⟩ := hS.putAt (setP n) (L := famL sx.ns (fun k => nextQ q n (k : Int))) (x := (Go.Gm.nth sx.ns U, (putL (nextQ q n (U : Int)) n (Z : Int) false))) 6 60 (U) (by rw [famL_len]; omega) rfl rfl rfl
  rw [famL_set (ps := sx.ns) (f := (fun k => nextQ q n (k : Int))) (g := (fun k => nextQ (q.erase (⟨(U : Int), (Z : Int)⟩ : PairD)) n (k : Int))) (k := U) (next_drop_at (by omega) hc1) (fun j _ hj => next_drop_no (by omega))] at hS
  obtain ⟨F, hS⟩ := hS.nm [6, 1, 0] [7, 6, 5, 4, 3, 2, 0] rfl rfl
  refine then_n (wp_seq ?_)
  replace hS := hS.fresh 101 rfl
  refine region_q hS
    (cF rfl (oM .t) r1 trivial
    (cF rfl (o_nilCheck 2 .is (by rfl)) r1 r1
    (cF rfl (oF 2 2 .adr) r1 r1
    (cF rfl (oL false 1 2 .adr) r1 r1
    (cF rfl (OpC.lendRow 5 [73] (o_callN 101 (cloneV_c sx.rs (by omega)) Tryd.func50 rfl (by kernel_rfl) (Args.one .t) pvOne1) ⟨rfl, trivial⟩ (fun _ _ _ _ _ h => h) ⟨(fun _ _ _ _ _ _ _ _ _ _ k => rowV_free k), trivial⟩ (by rfl)) r1 r2
    (cF rfl (oN .t) r1 trivial
    Chain.nil))))))
    hB ?_
  clear hS; intro a w F hS
  replace hS := hS.sub
  obtain ⟨F, hS⟩ := hS.nm [7, 6, 1, 0] [101, 7, 6, 5, 4, 3, 2, 0] rfl rfl
  try dsimp only [RS.sub, SF.sub, CF.sub, csub, Anc.sub, List.map, xD, xE, xT, xU, ldSF, rV, mapC, rInt] at hS
  generalize Act.tau a 74 = v74 at hS
  refine then_n (wp_seq (wp_seq ?_))
  refine region_q hS
    (cF rfl (oM .t) r1 trivial
    (cF rfl (o_len_row 101 Tryd.underlying69 .is) r1 r1
    (cF rfl (oM (.ci (by kernel_rfl))) trivial trivial
    Chain.nil)))
    hB ?_
  clear hS; intro a w F hS
  obtain ⟨F, hS⟩ := hS.nm [77, 76, 7, 6, 1, 0] [101, 7, 6, 5, 4, 3, 2, 0] rfl rfl
  try dsimp only [rV, mapC, rInt] at hS
  refine then_n (wp_block ?_)
  replace hS := hS.turn 5 rfl (r' := .ob (.val sx.rv) (rowH 72 1 rV (curP (tsOld (famL sx.rs (fun k => reachQ q (k : Int))))))) (by rw [curP_old]; exact fun _ _ _ _ h => h)
  replace hS := hS.turn 7 rfl (r' := famS (setT n) (tsOld (famL sx.rs (fun k => reachQ q (k : Int))))) (by rw [famT_start]; exact fun _ _ _ _ h => h)
  refine loop_keep (σ := (Nat) × (List TRow)) [0, 1, 6, 7, 76] [0, 2, 3, 4, 6, 101] (fun s => [(77, .pv (.int .i64 (s.1 : Int)))]) (fun s => [(5, .ob (.val sx.rv) (rowH 72 1 rV (curP s.2))), (7, famS (setT n) s.2)]) (fun s => s.1 ≤ sx.rs.length ∧ (TsOk n q (q.erase (⟨(U : Int), (Z : Int)⟩ : PairD)) sx.rs s.1 s.2)) (fun s => sx.rs.length - s.1) ((0), (tsOld (famL sx.rs (fun k => reachQ q (k : Int))))) hS ⟨rfl, rfl, rfl, rfl, rfl, rfl, trivial⟩ ⟨rfl, rfl, rfl, rfl, rfl, rfl, rfl, rfl, trivial⟩ ⟨Nat.zero_le _, TsOk.start hrl⟩ ?_
  clear hS; intro s a w F hC hS
  obtain ⟨i, ts⟩ := s
  try dsimp only at hC
  obtain ⟨F, hS⟩ := hS.nm [77, 76, 7, 6, 1, 0] [101, 7, 6, 5, 4, 3, 2, 0] rfl rfl
  try dsimp only at hS
  obtain ⟨hi, hq⟩ := hC
  have hT := hq
  have hcl9 : (curP ts).length = n := by rw [curP_len, hT.len]
  refine wp_seq ?_
  refine region_q hS
    (cF rfl (o_lss .t .t) r2 trivial
    Chain.nil)
    hB ?_
  clear hS; intro a w F hS
  obtain ⟨F, hS⟩ := hS.nm [78, 77, 76, 7, 6, 1, 0] [101, 7, 6, 5, 4, 3, 2, 0] rfl rfl
  try dsimp only [rV, mapC, rInt] at hS
  refine then_n (wp_seq ?_)
  refine cond_b hS rfl (fun hc3 => ?_) (fun hc3 => ?_)
  ·skip
   have hil : i < sx.rs.length := by simp at hc3; omega
   refine wp_skip (then_n (wp_seq (wp_block (wp_seq ?_))))
   refine region_q hS
     (cF rfl (oM .t) r1 trivial
     (cF rfl (oN .t) r1 trivial
     Chain.nil))
     hB ?_
   clear hS; intro a w F hS
   obtain ⟨F, hS⟩ := hS.nm [79, 78, 77, 76, 8, 7, 6, 1, 0] [101, 7, 6, 5, 4, 3, 2, 0] rfl rfl
   try dsimp only [rV, mapC, rInt] at hS
   refine then_n (wp_seq ?_)
   obtain ⟨F, hS⟩ := hS.takeAt (setT n) 7 61 i rfl rfl (hT.at (by omega))
   replace hS := hS.turn 61 rfl (r' := RS.hp (setH (Go.Gm.nth sx.rs i) n (reachQ q (i : Int)))) (fun _ _ _ _ h => h)
   obtain ⟨F, hS⟩ := hS.nm [79, 78, 77, 76, 8, 7, 6, 1, 0] [101, 61, 7, 6, 5, 4, 3, 2, 0] rfl rfl
   refine region_q hS
     (cF rfl (oM .t) r1 trivial
     (cF rfl (oM .t) r1 trivial
     (cF rfl (o_eql .t .t) r2 trivial
     (cF rfl (oM .t) r1 trivial
     (Chain.cons (Cert.cond rfl rfl (fun h => o_move .t (by rfl))) r2 trivial
     (Chain.cons (Cert.cond rfl rfl (fun h => o_move .t (by rfl))) r2 trivial
     (Chain.cons (Cert.cond rfl rfl (fun h => o_indexAddr_row (sz := 1) 101 (.mk Tryd.underlying69 (by kernel_rfl)) (.w h .is) (.w h) (by omega) (by omega) (by rfl))) r3 r1
     (Chain.cons (Cert.cond rfl rfl (fun h => o_load_row0 (ag := false) (sz' := 1) (sz := 1) 101 (.w h) (by intro x; rfl) (by rw [Int.toNat_natCast]; omega) (by kernel_rfl) (by kernel_rfl) (by kernel_rfl))) r2 r1
     (Chain.cons (Cert.cond rfl rfl (fun h => o_move .t (by rfl))) r2 trivial
     (Chain.cons (Cert.cond rfl rfl (fun h => OpC.lend 61 [87] setH_lend (oP (hasS_c n (reachQ q (i : Int)) (U : Int)) Tryd.func47 (Args.two (.w h) (.w h))) ⟨rfl, trivial, trivial⟩ (.pv (fun _ _ _ _ h => h)) trivial (by rfl))) r3 r1
     (cF rfl (o_or2 .t .t) r2 trivial
     Chain.nil)))))))))))
     hB ?_
   clear hS; intro a w F hS
   obtain ⟨F, hS⟩ := hS.nm [90, 89, 88, 87, 86, 85, 84, 83, 82, 81, 80, 79, 78, 77, 76, 8, 7, 6, 1, 0] [101, 61, 7, 6, 5, 4, 3, 2, 0] rfl rfl
   try dsimp only [List.map, xD, xE, xT, xU, ldSF, rV, mapC, rInt] at hS
   try simp only [Int.toNat_natCast] at hS
   refine then_n ?_
   refine cond_b hS rfl (fun hc4 => ?_) (fun hc4 => ?_)
   ·skip
    replace hS := hS.fresh 62 rfl
    refine region_any (by kernel_rfl) hS (by kernel_rfl)
      (cF rfl (oM .t) r1 trivial
      (cF rfl (o_nilCheck 2 .is (by rfl)) r1 r1
      (cF rfl (oF 2 2 .adr) r1 r1
      (cF rfl (oL false 1 2 .adr) r1 r1
      (cF rfl (oM .t) r1 trivial
      (cF rfl (oM .t) r1 trivial
      (cF rfl (oM .t) r1 trivial
      (cF rfl (OpC.lendL (ls := cloLs 2 4 6 _ _ _ _ _ _ _ _) [96] (clo_lend (by omega)) (o_callN 62 (look_c n (q.erase (⟨(U : Int), (Z : Int)⟩ : PairD)) i (by omega) hhi hinn.erase) Tryd.func51 rfl (by kernel_rfl) (Args.two .t .t) PV.ptr_one) ⟨rfl, trivial, trivial⟩ (fun _ _ _ _ _ h => h) (clo_free (by omega)) (by simp [cloLs, RS.deps, Anc.deps, cdeps, CF.deps, RS.hp]) (by rfl)) r2 r4
      (cF rfl (o_indexAddr_row (sz := 1) 5 (.mk Tryd.underlying69 (by kernel_rfl)) .is .t (by omega) (by omega) (by rfl)) r2 r1
      (cF rfl (o_sameOb (i := 98) (j := 98) (by rfl) (fun z => o_store_row1 (R := rV) (sz := 1) (v := z) 5 .t (by intro x; rfl) (by rw [Int.toNat_natCast]; omega) .t rfl one_is (by kernel_rfl))) r2 r1
      Chain.nil))))))))))
      (by kernel_rfl) (by rw [hB]; kernel_rfl) ?_
    clear hS; intro a w F hS
    replace hS := hS.sub
    obtain ⟨F, hS⟩ := hS.nm [99, 98, 97, 96, 95, 94, 93, 92, 91, 90, 89, 88, 87, 86, 85, 84, 83, 82, 81, 80, 79, 78, 77, 76, 8, 7, 6, 1, 0] [101, 62, 61, 7, 6, 5, 4, 3, 2, 0] rfl rfl
    try dsimp only [RS.sub, SF.sub, CF.sub, csub, Anc.sub, List.map, stCells, xL, xM, Nat.reduceAdd, xD, xE, xT, xU, xC, xN, zCF, ldSF, rV, mapC, rInt] at hS
    generalize Act.tau a 98 = v98 at hS
    try simp only [Int.toNat_natCast] at hS
    replace hS := hS.turn 62 rfl (r' := RS.hp (setP n (v98, reachQ (q.erase (⟨(U : Int), (Z : Int)⟩ : PairD)) (i : Int)))) (fun _ _ _ _ h => h)
    replace hS := hS.turn 61 rfl (r' := RS.hp (setP n ((Go.Gm.nth sx.rs i), reachQ q (i : Int)))) (fun _ _ _ _ h => h)
    replace hS := hS.fresh 63 rfl
    obtain ⟨F, hS⟩ := hS.push 63 62 rfl rfl rfl (by kernel_rfl)
    obtain ⟨F, hS⟩ := hS.push 63 61 rfl rfl rfl (by kernel_rfl)
    replace hS := hS.turn 63 rfl (r' := RS.hp (setT n ((Go.Gm.nth sx.rs i, reachQ q (i : Int)), some (v98, reachQ (q.erase (⟨(U : Int), (Z : Int)⟩ : PairD)) (i : Int))))) (fun _ _ _ _ h => h)
    obtain ⟨F, hS⟩ := hS.putAt (setT n) (L := ts) (x := ((Go.Gm.nth sx.rs i, reachQ q (i : Int)), some (v98, reachQ (q.erase (⟨(U : Int), (Z : Int)⟩ : PairD)) (i : Int)))) 7 63 i (by rw [hT.len]; omega) rfl rfl rfl
    rw [curP_set (o := ((Go.Gm.nth sx.rs i), reachQ q (i : Int))) (x := reachQ (q.erase (⟨(U : Int), (Z : Int)⟩ : PairD)) (i : Int))] at hS
    have hT2 := hT.put (show i < n by omega) v98
    obtain ⟨F, hS⟩ := hS.nm [99, 98, 97, 96, 95, 94, 93, 92, 91, 90, 89, 88, 87, 86, 85, 84, 83, 82, 81, 80, 79, 78, 77, 76, 8, 7, 6, 1, 0] [101, 7, 6, 5, 4, 3, 2, 0] rfl rfl
    refine block_n (then_n ?_)
    refine region_q hS
      (cF rfl (o_add .t (.ci (by kernel_rfl))) r1 trivial
      (cF rfl (oM .t) r1 trivial
      Chain.nil))
      hB ?_
    clear hS; intro a w F hS
    obtain ⟨F, hS⟩ := hS.nm [100, 99, 98, 97, 96, 95, 94, 93, 92, 91, 90, 89, 88, 87, 86, 85, 84, 83, 82, 81, 80, 79, 78, 77, 76, 8, 7, 6, 1, 0] [101, 7, 6, 5, 4, 3, 2, 0] rfl rfl
    try dsimp only [rV, mapC, rInt] at hS
    refine then_n ?_
    replace hS := hS.ent (i := 77) (s' := .pv (.int .i64 ((i + 1 : Nat) : Int))) rfl (.int (wrap_succ (by omega)))
    obtain ⟨F, hS⟩ := hS.nm [76, 7, 6, 1, 0, 77] [101, 6, 4, 3, 2, 0, 7, 5] rfl rfl
    exact ⟨((i + 1), ((ts.set i ((Go.Gm.nth sx.rs i, reachQ q (i : Int)), some (v98, reachQ (q.erase (⟨(U : Int), (Z : Int)⟩ : PairD)) (i : Int)))))), F, ⟨by omega, hT2⟩, hS, by omega⟩
   have hT2 := hT.keep (show i < n by omega) (drop_row_no hin (by simpa using hc4)).symm
   replace hS := hS.turn 61 rfl (r' := RS.hp (setT n ((Go.Gm.nth sx.rs i, reachQ q (i : Int)), none))) (fun _ _ _ _ h => h)
   obtain ⟨F, hS⟩ := hS.putBack (setT n) (L := ts) (x := ((Go.Gm.nth sx.rs i, reachQ q (i : Int)), none)) 7 61 i (hT.at (by omega)) rfl rfl rfl
   obtain ⟨F, hS⟩ := hS.nm [90, 89, 88, 87, 86, 85, 84, 83, 82, 81, 80, 79, 78, 77, 76, 8, 7, 6, 1, 0] [101, 7, 6, 5, 4, 3, 2, 0] rfl rfl
   refine wp_skip (block_n (then_n ?_))
   refine region_q hS
     (cF rfl (o_add .t (.ci (by kernel_rfl))) r1 trivial
     (cF rfl (oM .t) r1 trivial
     Chain.nil))
     hB ?_
   clear hS; intro a w F hS
   obtain ⟨F, hS⟩ := hS.nm [100, 90, 89, 88, 87, 86, 85, 84, 83, 82, 81, 80, 79, 78, 77, 76, 8, 7, 6, 1, 0] [101, 7, 6, 5, 4, 3, 2, 0] rfl rfl
   try dsimp only [rV, mapC, rInt] at hS
   refine then_n ?_
   replace hS := hS.ent (i := 77) (s' := .pv (.int .i64 ((i + 1 : Nat) : Int))) rfl (.int (wrap_succ (by omega)))
   obtain ⟨F, hS⟩ := hS.nm [76, 7, 6, 1, 0, 77] [101, 6, 4, 3, 2, 0, 7, 5] rfl rfl
   exact ⟨((i + 1), (ts)), F, ⟨by omega, hT2⟩, hS, by omega⟩
  have hil : i = sx.rs.length := by simp at hc3; omega
  rw [hil, hrl] at hq
  have hT := hq
  have hcl9 : (curP ts).length = n := by rw [curP_len, hT.len]
  refine wp_exit (then_x (then_x (block_x (then_n (wp_seq (wp_seq ?_))))))
  refine region_q hS
    (cF rfl (oM .t) r1 trivial
    (cF rfl (o_len_row 101 Tryd.underlying69 .is) r1 r1
    (cF rfl (oM (.ci (by kernel_rfl))) trivial trivial
    Chain.nil)))
    hB ?_
  clear hS; intro a w F hS
  obtain ⟨F, hS⟩ := hS.nm [103, 102, 7, 6, 0] [101, 7, 6, 5, 4, 3, 2, 0] rfl rfl
  try dsimp only [rV, mapC, rInt] at hS
  refine then_n (wp_block ?_)
  replace hS := hS.fresh 50 rfl
  replace hS := hS.turn 50 rfl (nilRow (T := 3) (sz := 1) (R := rInt))
  refine loop_keep (σ := (Nat) × (Value) × (List Int)) [0, 6, 7, 102] [0, 3, 4, 5, 6, 7, 101] (fun s => [(103, .pv (.int .i64 (s.1 : Int)))]) (fun s => [(2, .pt (.val (.pointer (some ⟨b, 0, none⟩))) 71 [.pv (.is sx.cv), .pv (.is sx.nv), .pv (.is sx.rv), .pv (.is s.2.1)]), (50, .ob (.val s.2.1) (rowH 3 1 rInt s.2.2))]) (fun s => s.1 ≤ sx.rs.length ∧ (s.2.2 = lastP q (q.erase (⟨(U : Int), (Z : Int)⟩ : PairD)) s.1)) (fun s => sx.rs.length - s.1) ((0), (.slice none 0 0), ([])) hS ⟨rfl, rfl, rfl, rfl, rfl, trivial⟩ ⟨rfl, rfl, rfl, rfl, rfl, rfl, rfl, rfl, rfl, trivial⟩ ⟨Nat.zero_le _, rfl⟩ ?_
  clear hS; intro s a w F hC hS
  obtain ⟨i, wv, ls⟩ := s
  try dsimp only at hC
  obtain ⟨F, hS⟩ := hS.nm [103, 102, 7, 6, 0] [101, 50, 7, 6, 5, 4, 3, 2, 0] rfl rfl
  try dsimp only at hS
  obtain ⟨hi, hq⟩ := hC
  have hlsl : ls.length ≤ i := by rw [hq]; exact lastP_len _ _ _
  refine wp_seq ?_
  refine region_q hS
    (cF rfl (o_lss .t .t) r2 trivial
    Chain.nil)
    hB ?_
  clear hS; intro a w F hS
  obtain ⟨F, hS⟩ := hS.nm [104, 103, 102, 7, 6, 0] [101, 50, 7, 6, 5, 4, 3, 2, 0] rfl rfl
  try dsimp only [rV, mapC, rInt] at hS
  refine then_n (wp_seq ?_)
  refine cond_b hS rfl (fun hc5 => ?_) (fun hc5 => ?_)
  ·skip
   have hil : i < sx.rs.length := by simp at hc5; omega
   refine wp_skip (then_n (wp_seq (wp_block (wp_seq ?_))))
   refine region_q hS
     (cF rfl (oM .t) r1 trivial
     (cF rfl (oN .t) r1 trivial
     Chain.nil))
     hB ?_
   clear hS; intro a w F hS
   obtain ⟨F, hS⟩ := hS.nm [105, 104, 103, 102, 9, 7, 6, 0] [101, 50, 7, 6, 5, 4, 3, 2, 0] rfl rfl
   try dsimp only [rV, mapC, rInt] at hS
   refine then_n (wp_seq ?_)
   obtain ⟨F, hS⟩ := hS.takeAt (setT n) 7 61 i rfl rfl (nth_some (by rw [hT.len]; omega))
   obtain ⟨F, hS⟩ := hS.nm [105, 104, 103, 102, 9, 7, 6, 0] [101, 61, 50, 7, 6, 5, 4, 3, 2, 0] rfl rfl
   refine region_any (by kernel_rfl) hS (by kernel_rfl)
     (cF rfl (oM .t) r1 trivial
     (cF rfl (oM .t) r1 trivial
     (cF rfl (o_indexAddr_row (sz := 1) 101 (.mk Tryd.underlying69 (by kernel_rfl)) .is .t (by omega) (by omega) (by rfl)) r2 r1
     (cF rfl (o_load_row0 (ag := false) (sz' := 1) (sz := 1) 101 .t (by intro x; rfl) (by rw [Int.toNat_natCast]; omega) (by kernel_rfl) (by kernel_rfl) (by kernel_rfl)) r1 r1
     (cF rfl (oM .t) r1 trivial
     (cF rfl (o_nilCheck 2 .is (by rfl)) r1 r1
     (cF rfl (oF 2 2 .adr) r1 r1
     (cF rfl (oL false 1 2 .adr) r1 r1
     (cF rfl (oM .t) r1 trivial
     (cF rfl (o_indexAddr_row (sz := 1) 5 (.mk Tryd.underlying69 (by kernel_rfl)) .is .t (by omega) (by omega) (by rfl)) r2 r1
     (cF rfl (o_load_row0 (ag := false) (sz' := 1) (sz := 1) 5 .t (by intro x; rfl) (by rw [Int.toNat_natCast]; omega) (by kernel_rfl) (by kernel_rfl) (by kernel_rfl)) r1 r1
     (cF rfl (o_callG1 61 (sameT_c n (Go.Gm.nth ts i)) Tryd.func52 rfl (by kernel_rfl) (Args.two (.conv .t (Ent.isEq (by rw [hT.old i (by omega)]; rfl))) (.conv .t (Ent.isEq (nth_curP (by rw [hT.len]; omega)))))) r2 r1
     (cF rfl (o_not .t) r1 trivial
     Chain.nil)))))))))))))
     (by kernel_rfl) (by rw [hB]; kernel_rfl) ?_
   clear hS; intro a w F hS
   obtain ⟨F, hS⟩ := hS.nm [118, 117, 116, 115, 114, 113, 112, 111, 110, 109, 108, 107, 106, 105, 104, 103, 102, 9, 7, 6, 0] [101, 61, 50, 7, 6, 5, 4, 3, 2, 0] rfl rfl
   try dsimp only [List.map, xD, xE, xT, xU, ldSF, rV, mapC, rInt] at hS
   try simp only [Int.toNat_natCast] at hS
   rw [hT.old i (by omega), hT.cur i (by omega), show mixQ q (q.erase (⟨(U : Int), (Z : Int)⟩ : PairD)) n i = reachQ (q.erase (⟨(U : Int), (Z : Int)⟩ : PairD)) (i : Int) from if_pos (by omega)] at hS
   obtain ⟨F, hS⟩ := hS.putBack (setT n) (L := ts) (x := Go.Gm.nth ts i) 7 61 i (nth_some (by rw [hT.len]; omega)) rfl rfl rfl
   obtain ⟨F, hS⟩ := hS.nm [118, 117, 116, 115, 114, 113, 112, 111, 110, 109, 108, 107, 106, 105, 104, 103, 102, 9, 7, 6, 0] [101, 50, 7, 6, 5, 4, 3, 2, 0] rfl rfl
   refine then_n ?_
   refine cond_b hS rfl (fun hc6 => ?_) (fun hc6 => ?_)
   ·skip
    have hBq : ¬ reachQ q (i : Int) = reachQ (q.erase (⟨(U : Int), (Z : Int)⟩ : PairD)) (i : Int) := by simpa using hc6
    refine region_q hS
      (cF rfl (oM .t) r1 trivial
      (cF rfl (oM .t) r1 trivial
      (cF rfl (o_nilCheck 2 .is (by rfl)) r1 r1
      (cF rfl (oF 3 2 .adr) r1 r1
      (cF rfl (oL false 1 2 .adr) r1 r1
      (cF rfl (oM .t) r1 trivial
      (cF rfl (o_buildSliceE (sz := 1) (zs := [.int .i64 0]) (r := [(0, .tmp 124)]) (l := [_]) Tryd.underlying30 (by kernel_rfl) (by kernel_rfl) (by kernel_rfl) (by kernel_rfl) rfl rfl (.one rfl .t one_int (by kernel_rfl) .nil) rfl) r1 trivial
      (cF rfl (o_append (sz := 1) (bs := 8) 50 (.mk' Tryd.underlying30 (by kernel_rfl) (by kernel_rfl)) (by intro x; rfl) .is (.arr (l' := [(i : Int)]) .t) (by simp only [List.length_append, List.length_cons, List.length_nil]; omega) (by decide)) ⟨rfl, rfl, trivial⟩ ⟨rfl, trivial⟩
      (cF rfl (o_nilCheck 2 .is (by rfl)) r1 r1
      (cF rfl (oF 3 2 .adr) r1 r1
      (cF rfl (o_storeS 2 .adr (by kernel_rfl) (by kernel_rfl)) r2 r1
      Chain.nil)))))))))))
      hB ?_
    clear hS; intro a w F hS
    replace hS := hS.sub
    obtain ⟨F, hS⟩ := hS.nm [128, 127, 126, 125, 124, 123, 122, 121, 120, 119, 118, 117, 116, 115, 114, 113, 112, 111, 110, 109, 108, 107, 106, 105, 104, 103, 102, 9, 7, 6, 0] [101, 50, 7, 6, 5, 4, 3, 2, 0] rfl rfl
    try dsimp only [RS.sub, SF.sub, CF.sub, csub, Anc.sub, List.map, stCells, xL, xM, Nat.reduceAdd, xD, xE, xT, xU, xC, xN, zCF, ldSF, rV, mapC, rInt] at hS
    generalize Act.tau a 126 = v126 at hS
    refine block_n (then_n ?_)
    refine region_q hS
      (cF rfl (o_add .t (.ci (by kernel_rfl))) r1 trivial
      (cF rfl (oM .t) r1 trivial
      Chain.nil))
      hB ?_
    clear hS; intro a w F hS
    obtain ⟨F, hS⟩ := hS.nm [129, 128, 127, 126, 125, 124, 123, 122, 121, 120, 119, 118, 117, 116, 115, 114, 113, 112, 111, 110, 109, 108, 107, 106, 105, 104, 103, 102, 9, 7, 6, 0] [101, 50, 7, 6, 5, 4, 3, 2, 0] rfl rfl
    try dsimp only [rV, mapC, rInt] at hS
    refine then_n ?_
    replace hS := hS.ent (i := 103) (s' := .pv (.int .i64 ((i + 1 : Nat) : Int))) rfl (.int (wrap_succ (by omega)))
    obtain ⟨F, hS⟩ := hS.nm [102, 7, 6, 0, 103] [101, 7, 6, 5, 4, 3, 0, 50, 2] rfl rfl
    exact ⟨((i + 1), (v126), (ls ++ [(i : Int)])), F, ⟨by omega, (by rw [lastP_next, ← hq, if_neg hBq])⟩, hS, by omega⟩
   have hBq : reachQ q (i : Int) = reachQ (q.erase (⟨(U : Int), (Z : Int)⟩ : PairD)) (i : Int) := by simpa using hc6
   refine wp_skip (block_n (then_n ?_))
   refine region_q hS
     (cF rfl (o_add .t (.ci (by kernel_rfl))) r1 trivial
     (cF rfl (oM .t) r1 trivial
     Chain.nil))
     hB ?_
   clear hS; intro a w F hS
   obtain ⟨F, hS⟩ := hS.nm [129, 118, 117, 116, 115, 114, 113, 112, 111, 110, 109, 108, 107, 106, 105, 104, 103, 102, 9, 7, 6, 0] [101, 50, 7, 6, 5, 4, 3, 2, 0] rfl rfl
   try dsimp only [rV, mapC, rInt] at hS
   refine then_n ?_
   replace hS := hS.ent (i := 103) (s' := .pv (.int .i64 ((i + 1 : Nat) : Int))) rfl (.int (wrap_succ (by omega)))
   obtain ⟨F, hS⟩ := hS.nm [102, 7, 6, 0, 103] [101, 7, 6, 5, 4, 3, 0, 50, 2] rfl rfl
   exact ⟨((i + 1), (wv), (ls)), F, ⟨by omega, (by rw [lastP_next, ← hq, if_pos hBq, List.append_nil])⟩, hS, by omega⟩
  have hil : i = sx.rs.length := by simp at hc5; omega
  have hls : ls = lastQ n q (q.erase (⟨(U : Int), (Z : Int)⟩ : PairD)) := by rw [hq, hil, hrl]; exact lastP_all n q _
  obtain ⟨F, hS⟩ := Sat.shrink hS 7 (r' := famS (setP n) (famL (curP ts) (fun k => reachQ (q.erase (⟨(U : Int), (Z : Int)⟩ : PairD)) (k : Int)))) rfl rfl (famT_shrink hT.all)
  refine wp_exit (then_x (then_x (block_x (then_n (wp_seq ?_)))))
  refine region_q hS
    (cF rfl (oN (.ci (by kernel_rfl))) trivial trivial
    Chain.nil)
    hB ?_
  clear hS; intro a w F hS
  obtain ⟨F, hS⟩ := hS.nm [6] [101, 50, 7, 6, 5, 4, 3, 2, 0] rfl rfl
  try dsimp only [rV, mapC, rInt] at hS
  refine then_n (wp_ret ?_)
  obtain ⟨F, hS⟩ := hS.giveCell 50 2 3 rfl rfl rfl rfl rfl
  try dsimp only [List.set] at hS
  obtain ⟨F, hS⟩ := hS.nm [6] [7, 6, 5, 4, 3, 2, 0] rfl rfl
  have hS := hS.fresh 1 rfl
  obtain ⟨F, hS⟩ := hS.push 1 7 rfl rfl rfl (by kernel_rfl)
  obtain ⟨F, hS⟩ := hS.push 1 6 rfl rfl rfl (by kernel_rfl)
  obtain ⟨F, hS⟩ := hS.push 1 5 rfl rfl rfl (by kernel_rfl)
  obtain ⟨F, hS⟩ := hS.push 1 4 rfl rfl rfl (by kernel_rfl)
  obtain ⟨F, hS⟩ := hS.push 1 3 rfl rfl rfl (by kernel_rfl)
  obtain ⟨F, hS⟩ := hS.push 1 2 rfl rfl rfl (by kernel_rfl)
  have hS := hS.turn 1 rfl (r' := RS.hp (clH (.pointer (some ⟨b, 0, none⟩)) n (q.erase (⟨(U : Int), (Z : Int)⟩ : PairD)) ls)) (fun _ _ _ _ h => ⟨{ sx with es := es3, ck := ck2, rs := curP ts }, ⟨(by rw [hls]; exact lastQ_len n q _), hhi, hinn.erase, (by have := List.length_erase_le (a := (⟨(U : Int), (Z : Int)⟩ : PairD)) (l := q); have := hk.len; omega), hnl, (by show (curP ts).length = n; rw [curP_len, hT.len]), hcnt2⟩, h⟩)
  obtain ⟨F, hS⟩ := hS.nm [6] [1, 0] rfl rfl
  have hS := hS.turn 1 rfl (r' := RS.hp (clH (.pointer (some ⟨b, 0, none⟩)) n (stepQ n q (⟨1, (U : Int), (Z : Int)⟩ : Deed4)).1 (lastD n q last (⟨1, (U : Int), (Z : Int)⟩ : Deed4)))) (by unfold lastD; rw [hg]; exact (by rw [if_pos rfl, ← hls]; exact fun _ _ _ _ h => h))
  refine ret_G1 hG hS rfl (.tmp rfl .nil) (.one (.int (by rw [hg]))) rfl

end Go.Proofs.YtpahapjcdldodaaDoor
