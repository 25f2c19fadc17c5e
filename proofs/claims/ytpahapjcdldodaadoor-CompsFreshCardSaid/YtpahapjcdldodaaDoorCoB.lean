/- Components: Clean. No condition beyond those that each theorem says. -/
import Derived.Test.YtpahapjcdldodaaDoorCoA
namespace Go.Proofs.YtpahapjcdldodaaDoor
open Go Go.Gm
set_option linter.unusedVariables false
set_option linter.unusedSimpArgs false
set_option maxHeartbeats 4000000
set_option maxRecDepth 8000


theorem cclean_c (b n : Nat) (q q0 : List PairD) : FnG Tryd.prog 39 1 [.is (.pointer (some ⟨b, 0, none⟩))] [coH (.pointer (some ⟨b, 0, none⟩)) n q q0] (.tup []) (fun _ => [coH (.pointer (some ⟨b, 0, none⟩)) n q q]) := by
  refine FnG.mk Tryd.func39 rfl Tryd.ntmps39 rfl (by kernel_rfl) ?_
  intro B F0 a w F hB hG hS
  obtain ⟨sx, hS⟩ := hS.open_ex 1 rfl
  obtain ⟨hk, hS⟩ := hS.open_and 1 rfl
  dsimp only [coParts] at hS
  obtain ⟨F, hS⟩ := hS.peel 1 2 rfl rfl
  obtain ⟨F, hS⟩ := hS.peel 1 3 rfl rfl
  obtain ⟨F, hS⟩ := hS.peel 1 4 rfl rfl
  obtain ⟨F, hS⟩ := hS.peel 1 5 rfl rfl
  obtain ⟨F, hS⟩ := hS.peel 1 8 rfl rfl
  obtain ⟨F, hS⟩ := hS.peel 1 6 rfl rfl
  obtain ⟨F, hS⟩ := hS.peel 1 7 rfl rfl
  obtain ⟨F, hS⟩ := hS.peel 1 10 rfl rfl
  have hhi := hk.hi
  have hnl : sx.ns.length = n := hk.nl
  have hkl : sx.ks.length = n := hk.kl
  have hml : sx.ms.length = n := hk.ml
  have hinn := hk.inn
  have hup := hk.up
  have hql := hk.len
  obtain ⟨F, hS⟩ := hS.nm [0] [10, 8, 7, 6, 5, 4, 3, 2, 0] rfl rfl
  refine wp_seq (wp_seq ?_)
  refine region_q hS
    (cF rfl (oM .t) r1 trivial
    (cF rfl (o_nil_eql _ Tryd.underlying51 rfl .t) r1 trivial
    Chain.nil))
    hB ?_
  clear hS; intro a w F hS
  obtain ⟨F, hS⟩ := hS.nm [6, 0] [10, 8, 7, 6, 5, 4, 3, 2, 0] rfl rfl
  try dsimp only [rV, rMk, mapS, rInt] at hS
  refine then_n ?_
  refine cond_b hS rfl (fun hc0 => ?_) (fun hc0 => ?_)
  ·skip
   simp at hc0
  refine wp_skip (then_n (wp_seq (wp_seq ?_)))
  refine region_q hS
    (cF rfl (oM .t) r1 trivial
    (cF rfl (o_nilCheck 2 .is (by rfl)) r1 r1
    (cF rfl (oF 4 2 .adr) r1 r1
    (cF rfl (oL false 1 2 .adr) r1 r1
    (cF rfl (o_callG1 10 (listV_c sx.dv n sx.D) Tryd.func54 rfl (by kernel_rfl) (Args.one .t)) r1 r1
    (cF rfl (o_len_sl Tryd.underlying30 .t) r1 trivial
    (cF rfl (oM (.ci (by kernel_rfl))) trivial trivial
    Chain.nil)))))))
    hB ?_
  clear hS; intro a w F hS
  obtain ⟨F, hS⟩ := hS.nm [13, 12, 11, 0] [10, 8, 7, 6, 5, 4, 3, 2, 0] rfl rfl
  try dsimp only [List.map, xD, xE, xT, xU, ldSF, rV, rMk, mapS, rInt] at hS
  have hdl := up_len hup
  refine then_n (wp_block ?_)
  refine loop_keep (σ := (Nat) × (List Value) × (List (GE Int Int)) × (Nat)) [0, 11, 12] [0, 2, 3, 4, 6, 10] (fun s => [(13, .pv (.int .i64 (s.1 : Int)))]) (fun s => [(5, .ob (.val sx.mv) (rowH 89 2 rMk (mkL s.2.1 (cleanMs n q sx.ms sx.D s.1)))), (8, .ob (.val sx.sv) (mapS s.2.2.1 s.2.2.2)), (7, famS (setP n) (famL s.2.1 (fun k => (Go.Gm.nth (cleanMs n q sx.ms sx.D s.1) k).2)))]) (fun s => s.1 ≤ sx.D.length ∧ (s.2.1.length = n ∧ SzOk s.2.2.1 (cleanMs n q sx.ms sx.D s.1))) (fun s => sx.D.length - s.1) ((0), (sx.ks), (sx.es), (sx.ck)) hS ⟨rfl, rfl, rfl, rfl, trivial⟩ ⟨rfl, rfl, rfl, rfl, rfl, rfl, rfl, rfl, rfl, trivial⟩ ⟨Nat.zero_le _, ⟨hkl, hk.sz⟩⟩ ?_
  clear hS; intro s a w F hC hS
  obtain ⟨i, ks2, es2, ck2⟩ := s
  try dsimp only at hC
  obtain ⟨F, hS⟩ := hS.nm [13, 12, 11, 0] [10, 8, 7, 6, 5, 4, 3, 2, 0] rfl rfl
  try dsimp only at hS
  obtain ⟨hi, hq⟩ := hC
  obtain ⟨hk2, hsz⟩ := hq
  obtain ⟨mi, hmi⟩ : ∃ z, z = cleanMs n q sx.ms sx.D i := ⟨_, rfl⟩
  rw [← hmi] at hS hsz
  have hmil : mi.length = n := by rw [hmi, cleanMs_len]; exact hml
  refine wp_seq ?_
  refine region_q hS
    (cF rfl (o_lss .t .t) r2 trivial
    Chain.nil)
    hB ?_
  clear hS; intro a w F hS
  obtain ⟨F, hS⟩ := hS.nm [14, 13, 12, 11, 0] [10, 8, 7, 6, 5, 4, 3, 2, 0] rfl rfl
  try dsimp only [rV, rMk, mapS, rInt] at hS
  refine then_n (wp_seq ?_)
  refine cond_b hS rfl (fun hc1 => ?_) (fun hc1 => ?_)
  ·skip
   have hil : i < sx.D.length := by simp at hc1; omega
   have hxt : There n (Go.Gm.nth sx.D i) := hup.2 _ (nth_mem hil)
   have hxk : (Go.Gm.nth sx.D i) < (ks2.length : Int) := by have := hxt.2; omega
   have hxk2 : (Go.Gm.nth sx.D i).toNat < ks2.length := by have := hxt.1; omega
   have hcp := compQ_pos (q := q) hxt
   have hmn : cleanMs n q sx.ms sx.D (i + 1) = mi.set (Go.Gm.nth sx.D i).toNat (labQ n q (Go.Gm.nth sx.D i), inQ n q (Go.Gm.nth sx.D i)) := by rw [cleanMs_next hil, ← hmi]; rfl
   refine wp_skip (then_n (wp_seq (wp_block (wp_seq ?_))))
   refine region_q hS
     (cF rfl (o_indexAddr_sl (sz := 1) (.mk Tryd.underlying30 (by kernel_rfl)) (by intro x; rfl) .t .t (by omega) (by omega)) r2 trivial
     (cF rfl (oR false 1 .t) r1 trivial
     (cF rfl (oN .t) r1 trivial
     Chain.nil)))
     hB ?_
   clear hS; intro a w F hS
   obtain ⟨F, hS⟩ := hS.nm [13, 12, 11, 3, 0] [10, 8, 7, 6, 5, 4, 3, 2, 0] rfl rfl
   try dsimp only [List.map, xD, xE, xT, xU, ldSF, rV, rMk, mapS, rInt] at hS
   try simp only [Int.toNat_natCast] at hS
   refine then_n (wp_seq ?_)
   refine region_any (by kernel_rfl) hS (by kernel_rfl)
     (cF rfl (oM .t) r1 trivial
     (cF rfl (o_nilCheck 2 .is (by rfl)) r1 r1
     (cF rfl (oF 3 2 .adr) r1 r1
     (cF rfl (oL false 1 2 .adr) r1 r1
     (cF rfl (oM .t) r1 trivial
     (cF rfl (o_nilCheck 2 .is (by rfl)) r1 r1
     (cF rfl (oF 2 2 .adr) r1 r1
     (cF rfl (oL false 1 2 .adr) r1 r1
     (cF rfl (oM .t) r1 trivial
     (cF rfl (o_indexAddr_row (sz := 2) 5 (.mk Tryd.underlying85 (by kernel_rfl)) .is .t (by exact hxt.1) (by rw [mkL_len]; exact hxk) (by rfl)) r2 r1
     (cF rfl (o_fieldAddr_row (off := 0) (sz := 2) 5 .t (by rw [mkL_len]; omega) (by kernel_rfl) (by rfl)) r1 r1
     (cF rfl (o_load_row (ag := false) (sz' := 1) (sz := 2) 5 .t (by intro x; rfl) (by rw [mkL_len]; omega) (by kernel_rfl) (by kernel_rfl) (by kernel_rfl)) r1 r1
     (cF rfl (o_lookupG (ek := (fun c : Int => PV.int .i64 c)) (z0 := (0 : Int)) 8 Tryd.underlying84 (key_intG Tryd.underlying3) (by kernel_rfl) (fun _ _ => ⟨rfl, inR0⟩) .is (IsKeyOf.int .t rfl)) r2 r1
     (cF rfl (o_sub .t (.ci (by kernel_rfl))) r1 trivial
     (cF rfl (o_mapUpdateG (ek := (fun c : Int => PV.int .i64 c)) 8 Tryd.underlying84 (key_intG Tryd.underlying3) .is (IsKeyOf.int .t rfl) .t) r3 r1
     Chain.nil)))))))))))))))
     (by kernel_rfl) (by rw [hB]; kernel_rfl) ?_
   clear hS; intro a w F hS
   obtain ⟨F, hS⟩ := hS.nm [13, 12, 11, 3, 0] [10, 8, 7, 6, 5, 4, 3, 2, 0] rfl rfl
   try dsimp only [List.map, xD, xE, xT, xU, ldSF, rV, rMk, mapS, rInt] at hS
   try simp only [Int.toNat_natCast] at hS
   rw [mkL_nth hxk2] at hS
   have hbd := hsz.bd (Go.Gm.nth mi (Go.Gm.nth sx.D i).toNat).1
   dsimp only at hS
   rw [show IntKind.wrap .i64 ((gGet (Go.Gm.nth mi (Go.Gm.nth sx.D i).toNat).1 es2).getD 0 - 1) = (gGet (Go.Gm.nth mi (Go.Gm.nth sx.D i).toNat).1 es2).getD 0 - 1 from wrap_i64 (by omega)] at hS
   obtain ⟨es3, hes3⟩ : ∃ z, z = (gPut (Go.Gm.nth mi (Go.Gm.nth sx.D i).toNat).1 ((gGet (Go.Gm.nth mi (Go.Gm.nth sx.D i).toNat).1 es2).getD 0 - 1) (es2, ck2)).1 := ⟨_, rfl⟩
   obtain ⟨ck3, hck3⟩ : ∃ z, z = (gPut (Go.Gm.nth mi (Go.Gm.nth sx.D i).toNat).1 ((gGet (Go.Gm.nth mi (Go.Gm.nth sx.D i).toNat).1 es2).getD 0 - 1) (es2, ck2)).2 := ⟨_, rfl⟩
   rw [← hes3, ← hck3] at hS
   refine then_n (wp_seq ?_)
   replace hS := hS.fresh 51 rfl
   refine region_q hS
     (cF rfl (oM .t) r1 trivial
     (cF rfl (oM .t) r1 trivial
     (cF rfl (OpC.lendL (ls := coLs 2 3 4 6 _ _ _ _ _ _ _ _ _ _) [31] (co_lend (by omega)) (o_callN 51 (members_c n q (Go.Gm.nth sx.D i) hhi hinn hql) Tryd.func37 rfl (by kernel_rfl) (Args.two .t .t) pvOne1) ⟨rfl, trivial, trivial⟩ (fun _ _ _ _ _ h => h) row_free1 (by simp [coLs, RS.deps, Anc.deps, cdeps, CF.deps, RS.hp]) (by rfl)) r2 r5
     (cF rfl (oN .t) r1 trivial
     Chain.nil))))
     hB ?_
   clear hS; intro a w F hS
   replace hS := hS.sub
   obtain ⟨F, hS⟩ := hS.nm [13, 12, 11, 4, 3, 0] [51, 10, 8, 7, 6, 5, 4, 3, 2, 0] rfl rfl
   try dsimp only [RS.sub, SF.sub, CF.sub, csub, Anc.sub, List.map, rV, rMk, mapS, rInt] at hS
   generalize Act.tau a 33 = v33 at hS
   obtain ⟨F, hS⟩ := hS.give 51 4 rfl rfl
   obtain ⟨F, hS⟩ := hS.nm [13, 12, 11, 4, 3, 0] [10, 8, 7, 6, 5, 4, 3, 2, 0] rfl rfl
   rw [show memB n q (Go.Gm.nth sx.D i) = (compQ n q (Go.Gm.nth sx.D i)) from if_pos hxt] at hS
   refine then_n (wp_seq ?_)
   replace hS := Sat.tabOf hS 10 62 rfl rfl
   refine region_any (by kernel_rfl) hS (by kernel_rfl)
     (cF rfl (oM .t) r1 trivial
     (cF rfl (o_nilCheck 2 .is (by rfl)) r1 r1
     (cF rfl (oF 2 2 .adr) r1 r1
     (cF rfl (oL false 1 2 .adr) r1 r1
     (cF rfl (oM .t) r1 trivial
     (cF rfl (oM .t) r1 trivial
     (cF rfl (o_indexAddr_sl (sz := 1) (.mk Tryd.underlying30 (by kernel_rfl)) (by intro x; rfl) .t (.ci (by kernel_rfl)) (by decide) (by omega)) r1 trivial
     (cF rfl (oR false 1 .t) r1 trivial
     (cF rfl (oM .t) r1 trivial
     (cF rfl (oM .t) r1 trivial
     (cF rfl (oM .t) r1 trivial
     (cF rfl (OpC.lendL (ls := coLs 2 3 4 6 _ _ _ _ _ _ _ _ _ _) [42] (co_lend (by omega)) (o_callNg 62 (inner_c n q (Go.Gm.nth sx.D i) (compQ n q (Go.Gm.nth sx.D i)) hhi hxt (by have := up_len (compQ_up n q (Go.Gm.nth sx.D i)); omega)) Tryd.func63 rfl (by kernel_rfl) (Args.three .t .t .t) PV.ptr_one) ⟨rfl, trivial, trivial, trivial⟩ (fun _ _ _ _ _ h => h) (co_free (by omega)) (by simp [coLs, RS.deps, Anc.deps, cdeps, CF.deps, RS.hp]) (by rfl)) r3 r5
     (cF rfl (oB [(0, .tmp 41), (1, .tmp 45)] [.int .i64 0, .pointer none] [(0, 1), (1, 1)] (.one rfl .t one_int (by kernel_rfl) (.same rfl (by kernel_rfl) .nil))) r2 trivial
     (cF rfl (o_indexAddr_row (sz := 2) 5 (.mk Tryd.underlying85 (by kernel_rfl)) .is .t (by exact hxt.1) (by rw [mkL_len]; exact hxk) (by rfl)) r2 r1
     (cF rfl (o_aggOb (i := 46) (j := 45) (cs := fun z => [.pv (.int .i64 (Go.Gm.nth (compQ n q (Go.Gm.nth sx.D i)) 0)), .pv (.is z)]) (by rfl) cfs_mark (fun z => o_store_row (R := rMk) (sz := 2) (v := ((Go.Gm.nth (compQ n q (Go.Gm.nth sx.D i)) 0), z)) 5 .t (by intro x; rfl) (by rw [mkL_len]; omega) (.conv .t (.aggU rfl rfl)) (by kernel_rfl))) r2 r1
     Chain.nil)))))))))))))))
     (by kernel_rfl) (by rw [hB]; kernel_rfl) ?_
   clear hS; intro a w F hS
   replace hS := hS.sub
   obtain ⟨F, hS⟩ := hS.nm [13, 12, 11, 4, 0] [62, 10, 8, 7, 6, 5, 4, 3, 2, 0] rfl rfl
   try dsimp only [RS.sub, SF.sub, CF.sub, csub, Anc.sub, List.map, stCells, xL, xM, Nat.reduceAdd, xD, xE, xT, xU, xC, xN, zCF, ldSF, rV, rMk, mapS, rInt] at hS
   generalize Act.tau a 45 = v45 at hS
   try simp only [Int.toNat_natCast] at hS
   rw [innerL_comp hhi hinn (compQ_self hxt)] at hS
   replace hS := hS.turn 62 rfl (r' := RS.hp (setP n (v45, inQ n q (Go.Gm.nth sx.D i)))) (fun _ _ _ _ h => h)
   obtain ⟨F, hS⟩ := hS.takeAt (setP n) 7 61 ((Go.Gm.nth sx.D i).toNat) rfl rfl (famL_at (by omega))
   obtain ⟨F, hS⟩ := hS.putAt (setP n) (L := famL ks2 (fun k => (Go.Gm.nth (mi) k).2)) (x := (v45, inQ n q (Go.Gm.nth sx.D i))) 7 62 ((Go.Gm.nth sx.D i).toNat) (by rw [famL_len]; omega) rfl rfl rfl
   rw [famL_setp (ps := ks2) (f := (fun k => (Go.Gm.nth (mi) k).2)) (g := (fun k => (Go.Gm.nth (mi.set (Go.Gm.nth sx.D i).toNat (labQ n q (Go.Gm.nth sx.D i), inQ n q (Go.Gm.nth sx.D i))) k).2)) (k := (Go.Gm.nth sx.D i).toNat) (by rw [nth_set (by omega), if_pos rfl]) (fun j hj hne => by rw [nth_set (by omega), if_neg (fun e => hne e.symm)])] at hS
   rw [show (mkL ks2 mi).set (Go.Gm.nth sx.D i).toNat ((Go.Gm.nth (compQ n q (Go.Gm.nth sx.D i)) 0), v45) = mkL (ks2.set (Go.Gm.nth sx.D i).toNat v45) (mi.set (Go.Gm.nth sx.D i).toNat (labQ n q (Go.Gm.nth sx.D i), inQ n q (Go.Gm.nth sx.D i))) from mkL_set (m := (labQ n q (Go.Gm.nth sx.D i), inQ n q (Go.Gm.nth sx.D i))) (by omega)] at hS
   obtain ⟨F, hS⟩ := hS.nm [13, 12, 11, 4, 0] [10, 8, 7, 6, 5, 4, 3, 2, 0] rfl rfl
   refine then_n ?_
   refine region_any (by kernel_rfl) hS (by kernel_rfl)
     (cF rfl (oM .t) r1 trivial
     (cF rfl (o_nilCheck 2 .is (by rfl)) r1 r1
     (cF rfl (oF 3 2 .adr) r1 r1
     (cF rfl (oL false 1 2 .adr) r1 r1
     (cF rfl (oM .t) r1 trivial
     (cF rfl (o_indexAddr_sl (sz := 1) (.mk Tryd.underlying30 (by kernel_rfl)) (by intro x; rfl) .t (.ci (by kernel_rfl)) (by decide) (by omega)) r1 trivial
     (cF rfl (oR false 1 .t) r1 trivial
     (cF rfl (o_lookupG (ek := (fun c : Int => PV.int .i64 c)) (z0 := (0 : Int)) 8 Tryd.underlying84 (key_intG Tryd.underlying3) (by kernel_rfl) (fun _ _ => ⟨rfl, inR0⟩) .is (IsKeyOf.int .t rfl)) r2 r1
     (cF rfl (o_add .t (.ci (by kernel_rfl))) r1 trivial
     (cF rfl (o_mapUpdateG (ek := (fun c : Int => PV.int .i64 c)) 8 Tryd.underlying84 (key_intG Tryd.underlying3) .is (IsKeyOf.int .t rfl) .t) r3 r1
     Chain.nil))))))))))
     (by kernel_rfl) (by rw [hB]; kernel_rfl) ?_
   clear hS; intro a w F hS
   obtain ⟨F, hS⟩ := hS.nm [13, 12, 11, 0] [10, 8, 7, 6, 5, 4, 3, 2, 0] rfl rfl
   try dsimp only [List.map, xD, xE, xT, xU, ldSF, rV, rMk, mapS, rInt] at hS
   try simp only [Int.toNat_natCast] at hS
   have hsz4 := hsz.move (c2 := ck3) (m := (labQ n q (Go.Gm.nth sx.D i), inQ n q (Go.Gm.nth sx.D i))) (by omega) hes3
   have hbe : -9223372036854775808 ≤ (gGet (Go.Gm.nth (compQ n q (Go.Gm.nth sx.D i)) 0) es3).getD 0 + 1 ∧ (gGet (Go.Gm.nth (compQ n q (Go.Gm.nth sx.D i)) 0) es3).getD 0 + 1 ≤ 9223372036854775807 := by have h9 := hsz4.bd (labQ n q (Go.Gm.nth sx.D i)); rw [gGet_put, if_pos rfl, List.length_set] at h9; have h8 : 0 ≤ (gGet (labQ n q (Go.Gm.nth sx.D i)) es3).getD 0 + 1 ∧ (gGet (labQ n q (Go.Gm.nth sx.D i)) es3).getD 0 + 1 ≤ mi.length := h9; have h7 : (gGet (labQ n q (Go.Gm.nth sx.D i)) es3).getD 0 = (gGet (Go.Gm.nth (compQ n q (Go.Gm.nth sx.D i)) 0) es3).getD 0 := rfl; omega
   rw [show Int.toNat 0 = 0 from rfl] at hS
   rw [wrap_i64 hbe] at hS
   obtain ⟨es4, hes4⟩ : ∃ z, z = (gPut (Go.Gm.nth (compQ n q (Go.Gm.nth sx.D i)) 0) ((gGet (Go.Gm.nth (compQ n q (Go.Gm.nth sx.D i)) 0) es3).getD 0 + 1) (es3, ck3)).1 := ⟨_, rfl⟩
   obtain ⟨ck4, hck4⟩ : ∃ z, z = (gPut (Go.Gm.nth (compQ n q (Go.Gm.nth sx.D i)) 0) ((gGet (Go.Gm.nth (compQ n q (Go.Gm.nth sx.D i)) 0) es3).getD 0 + 1) (es3, ck3)).2 := ⟨_, rfl⟩
   rw [← hes4, ← hck4] at hS
   replace hsz4 : SzOk es4 (mi.set (Go.Gm.nth sx.D i).toNat (labQ n q (Go.Gm.nth sx.D i), inQ n q (Go.Gm.nth sx.D i))) := by rw [hes4]; exact hsz4
   refine block_n (then_n ?_)
   refine region_q hS
     (cF rfl (o_add .t (.ci (by kernel_rfl))) r1 trivial
     (cF rfl (oM .t) r1 trivial
     Chain.nil))
     hB ?_
   clear hS; intro a w F hS
   obtain ⟨F, hS⟩ := hS.nm [13, 12, 11, 0] [10, 8, 7, 6, 5, 4, 3, 2, 0] rfl rfl
   try dsimp only [rV, rMk, mapS, rInt] at hS
   refine then_n ?_
   rw [← hmn] at hS
   replace hS := hS.ent (i := 13) (s' := .pv (.int .i64 ((i + 1 : Nat) : Int))) rfl (.int (wrap_succ (by omega)))
   obtain ⟨F, hS⟩ := hS.nm [12, 11, 0, 13] [10, 6, 4, 3, 2, 0, 7, 8, 5] rfl rfl
   exact ⟨((i + 1), ((ks2.set (Go.Gm.nth sx.D i).toNat v45)), (es4), (ck4)), F, ⟨by omega, ⟨by rw [List.length_set]; exact hk2, by rw [hmn]; exact hsz4⟩⟩, hS, by omega⟩
  have hil : i = sx.D.length := by simp at hc1; omega
  rw [hmi, hil] at hS hsz hmil
  have hkE : ks2.length = n := hk2
  have hmE : (cleanMs n q sx.ms sx.D sx.D.length).length = n := hmil
  have hsE := hsz
  refine wp_exit (then_x (then_x (block_x (then_n ?_))))
  replace hS := Sat.tabOf hS 10 63 rfl rfl
  refine region_q hS
    (cF rfl (oM .t) r1 trivial
    (cF rfl (oM .t) r1 trivial
    (cF rfl (OpC.lendL (ls := coLs 2 3 4 6 _ _ _ _ _ _ _ _ _ _) [59] (co_lend (by omega)) (oP (coNodes_c n q) Tryd.func29 (Args.one .t)) ⟨rfl, trivial⟩ (.pv (fun _ _ _ _ h => h)) (fun x hx => by cases hx) (by simp [coLs, RS.deps, Anc.deps, cdeps, CF.deps, RS.hp]) (by rfl)) r1 r4
    (cF rfl (o_callNg 63 (newS_c (n : Int)) Tryd.func41 rfl (by kernel_rfl) (Args.one .t) PV.ptr_one) r1 r1
    (cF rfl (o_nilCheck 2 .is (by rfl)) r1 r1
    (cF rfl (oF 4 2 .adr) r1 r1
    (cF rfl (o_storeS 2 .adr (by kernel_rfl) (by kernel_rfl)) r2 r1
    Chain.nil)))))))
    hB ?_
  clear hS; intro a w F hS
  replace hS := hS.sub
  obtain ⟨F, hS⟩ := hS.nm [] [63, 10, 8, 7, 6, 5, 4, 3, 2, 0] rfl rfl
  try dsimp only [RS.sub, SF.sub, CF.sub, csub, Anc.sub, List.map, stCells, xL, xM, Nat.reduceAdd, xD, xE, xT, xU, xC, xN, zCF, rV, rMk, mapS, rInt] at hS
  generalize Act.tau a 61 = v61 at hS
  rw [rowN_nat (by omega)] at hS
  replace hS := hS.turn 63 rfl (r' := RS.hp (setH v61 n [])) (fun _ _ _ _ h => h)
  obtain ⟨F, hS⟩ := hS.nm [] [63, 8, 7, 6, 5, 4, 3, 2, 0] rfl rfl
  have hS := hS.fresh 1 rfl
  obtain ⟨F, hS⟩ := hS.push 1 63 rfl rfl rfl (by kernel_rfl)
  obtain ⟨F, hS⟩ := hS.push 1 7 rfl rfl rfl (by kernel_rfl)
  obtain ⟨F, hS⟩ := hS.push 1 6 rfl rfl rfl (by kernel_rfl)
  obtain ⟨F, hS⟩ := hS.push 1 8 rfl rfl rfl (by kernel_rfl)
  obtain ⟨F, hS⟩ := hS.push 1 5 rfl rfl rfl (by kernel_rfl)
  obtain ⟨F, hS⟩ := hS.push 1 4 rfl rfl rfl (by kernel_rfl)
  obtain ⟨F, hS⟩ := hS.push 1 3 rfl rfl rfl (by kernel_rfl)
  obtain ⟨F, hS⟩ := hS.push 1 2 rfl rfl rfl (by kernel_rfl)
  have hS := hS.turn 1 rfl (r' := RS.hp (coH (.pointer (some ⟨b, 0, none⟩)) n q q)) (fun _ _ _ _ h => ⟨{ sx with ks := ks2, ms := cleanMs n q sx.ms sx.D sx.D.length, es := es2, ck := ck2, D := [], dv := v61 }, ⟨⟨hhi, hinn, hql, hnl, hkE, hmE, up_nil⟩, clean_mk hml hk.mrk hk.dt, hsE, ⟨up_nil, fun x _ _ => SameC.refl _ _ _⟩⟩, h⟩)
  refine ret_G1 hG hS rfl .nil .none rfl

theorem cclean_nil  : FnP Tryd.prog 39 [.is (.pointer none)] (.tup []) := by
  refine FnP.mk Tryd.func39 rfl Tryd.ntmps39 rfl ?_
  intro B a w F hB hfr hS
  refine wp_seq (wp_seq ?_)
  refine region_q hS
    (cF rfl (oM .t) r1 trivial
    (cF rfl (o_nil_eql _ Tryd.underlying51 rfl .t) r1 trivial
    Chain.nil))
    hB ?_
  clear hS; intro a w F hS
  obtain ⟨F, hS⟩ := hS.nm [6, 0] [0] rfl rfl
  refine then_n ?_
  refine cond_b hS rfl (fun hc0 => ?_) (fun hc0 => ?_)
  ·skip
   refine wp_ret (then_r ?_)
   refine ret_P hfr hS rfl .nil .none
  simp at hc0

end Go.Proofs.YtpahapjcdldodaaDoor
