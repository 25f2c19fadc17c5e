/- Components: New. No condition beyond those that each theorem says. -/
import Derived.Test.YtpahapjcdldodaaDoorCoB
namespace Go.Proofs.YtpahapjcdldodaaDoor
open Go Go.Gm
set_option linter.unusedVariables false
set_option linter.unusedSimpArgs false
set_option maxHeartbeats 4000000
set_option maxRecDepth 8000


theorem conew_c (room : Int) : FnG Tryd.prog 24 1 [.int .i64 room] [gH tabP tabV] (PV.ptr) (fun v => [coH v (roomN room) [] []]) := by
  refine FnG.mk Tryd.func24 rfl Tryd.ntmps24 rfl (by kernel_rfl) ?_
  intro B F0 a w F hB hG hS
  refine wp_seq ?_
  refine region_q hS
    (cF rfl (oN (.c rfl)) trivial trivial
    Chain.nil)
    hB ?_
  clear hS; intro a w F hS
  obtain ⟨F, hS⟩ := hS.nm [2, 0] [1, 0] rfl rfl
  try dsimp only [rV, rMk, mapS, rInt] at hS
  refine then_n (wp_seq ?_)
  replace hS := hS.dupG 1 3 rfl rfl
  refine region_q hS
    (cF rfl (oM .t) r1 trivial
    (cF rfl (o_callNg 3 (cnew_c room) Tryd.func7 rfl (by kernel_rfl) (Args.one .t) PV.ptr_one) r1 r1
    (cF rfl (o_makeMapG (ek := (fun c : Int => PV.int .i64 c)) (ok := (fun _ : Int => True)) (kv := (fun n : Int => Value.int .i64 n)) 101) trivial trivial
    (cF rfl (oB [(0, .tmp 6), (3, .tmp 7)] [.pointer none, .slice none 0 0, .slice none 0 0, .map none, .pointer none] [(0, 1), (1, 1), (2, 1), (3, 1), (4, 1)] (.same rfl (by kernel_rfl) (.same rfl (by kernel_rfl) .nil))) r2 trivial
    (cF rfl (oX 102 .t) r1 trivial
    (cF rfl (oN .t) r1 trivial
    Chain.nil))))))
    hB ?_
  clear hS; intro a w F hS
  replace hS := hS.sub
  obtain ⟨F, hS⟩ := hS.nm [3, 2] [102, 101, 3, 1, 0] rfl rfl
  try dsimp only [RS.sub, SF.sub, CF.sub, csub, Anc.sub, List.map, stCells, xL, xM, Nat.reduceAdd, xD, xE, xT, xU, xC, xN, zCF, rV, rMk, mapS, rInt] at hS
  generalize Act.tau a 9 = v9 at hS
  generalize Act.tau a 6 = v6 at hS
  generalize Act.tau a 7 = v7 at hS
  replace hS := hS.turn 3 rfl (r' := RS.hp (clH v6 (roomN room) [] [])) (fun _ _ _ _ h => h)
  refine then_n (wp_seq (wp_seq ?_))
  refine region_q hS
    (cF rfl (oM .t) r1 trivial
    (cF rfl (o_nilCheck 102 .is (by rfl)) r1 r1
    (cF rfl (oF 0 102 .adr) r1 r1
    (cF rfl (oL false 1 102 .adr) r1 r1
    (cF rfl (OpC.lend 3 [13] clo_read (oP (nodesF_c (roomN room) []) Tryd.func15 (Args.one .t)) ⟨rfl, trivial⟩ (.pv (fun _ _ _ _ h => h)) trivial (by rfl)) r1 r1
    (cF rfl (oM (.ci (by kernel_rfl))) trivial trivial
    Chain.nil))))))
    hB ?_
  clear hS; intro a w F hS
  obtain ⟨F, hS⟩ := hS.nm [15, 14, 3, 2] [102, 101, 3, 1, 0] rfl rfl
  try dsimp only [List.map, xD, xE, xT, xU, ldSF, rV, rMk, mapS, rInt] at hS
  replace hS := hS.fresh 50 rfl
  replace hS := hS.turn 50 rfl (nilRow (T := 72) (sz := 1) (R := rV))
  replace hS := hS.fresh 51 rfl
  replace hS := hS.turn 51 rfl (nilRow (T := 89) (sz := 2) (R := rMk))
  replace hS := hS.turn 51 rfl (r' := .ob (.val (.slice none 0 0)) (rowH 89 2 rMk (mkL [] (msN 0)))) (fun _ _ _ _ h => h)
  obtain ⟨F, hS⟩ := hS.nm [15, 14, 3, 2] [102, 101, 51, 50, 3, 1, 0] rfl rfl
  replace hS := hS.fresh 60 rfl
  replace hS := hS.turn 60 rfl (r' := famS (setP (roomN room)) (famL [] (fun k => nextQ [] (roomN room) (k : Int)))) (fun _ _ _ _ h => h)
  obtain ⟨F, hS⟩ := hS.nm [15, 14, 3, 2] [102, 101, 60, 51, 50, 3, 1, 0] rfl rfl
  replace hS := hS.fresh 61 rfl
  replace hS := hS.turn 61 rfl (r' := famS (setP (roomN room)) (famL [] (fun _ : Nat => ([] : List Int)))) (fun _ _ _ _ h => h)
  obtain ⟨F, hS⟩ := hS.nm [15, 14, 3, 2] [102, 101, 61, 60, 51, 50, 3, 1, 0] rfl rfl
  refine then_n (wp_block ?_)
  refine loop_keep (σ := Nat × Value × List Value × Value × List Value × List (GE Int Int) × Nat) [2, 3, 14] [0, 1, 3] (fun s => [(15, .pv (.int .i64 (s.1 : Int)))]) (fun s => [(102, .pt (.val v9) 87 [.pv (.is v6), .pv (.is s.2.1), .pv (.is s.2.2.2.1), .pv (.is v7), .pv (.is (.pointer none))]), (101, .ob (.val v7) (mapS s.2.2.2.2.2.1 s.2.2.2.2.2.2)), (50, .ob (.val s.2.1) (rowH 72 1 rV s.2.2.1)), (51, .ob (.val s.2.2.2.1) (rowH 89 2 rMk (mkL s.2.2.2.2.1 (msN s.1)))), (60, famS (setP (roomN room)) (famL s.2.2.1 (fun k => nextQ [] (roomN room) (k : Int)))), (61, famS (setP (roomN room)) (famL s.2.2.2.2.1 (fun _ : Nat => ([] : List Int))))]) (fun s => s.1 ≤ (roomN room) ∧ s.2.2.1.length = s.1 ∧ s.2.2.2.2.1.length = s.1 ∧ SzOk s.2.2.2.2.2.1 (msN s.1)) (fun s => (roomN room) - s.1) ((0), (.slice none 0 0), ([]), (.slice none 0 0), ([]), ([]), (0)) hS ⟨rfl, rfl, rfl, rfl, trivial⟩ ⟨rfl, rfl, rfl, rfl, rfl, rfl, rfl, rfl, rfl, trivial⟩ ⟨Nat.zero_le _, rfl, rfl, fun _ => rfl⟩ ?_
  clear hS; intro s a w F hC hS
  obtain ⟨i, u1, p1, u2, p2, es, ck⟩ := s
  try dsimp only at hC
  obtain ⟨F, hS⟩ := hS.nm [15, 14, 3, 2] [102, 101, 61, 60, 51, 50, 3, 1, 0] rfl rfl
  try dsimp only at hS
  obtain ⟨hi, hp1, hp2, hsz⟩ := hC
  refine wp_seq ?_
  refine region_q hS
    (cF rfl (o_lss .t .t) r2 trivial
    Chain.nil)
    hB ?_
  clear hS; intro a w F hS
  obtain ⟨F, hS⟩ := hS.nm [16, 15, 14, 3, 2] [102, 101, 61, 60, 51, 50, 3, 1, 0] rfl rfl
  try dsimp only [rV, rMk, mapS, rInt] at hS
  refine then_n (wp_seq ?_)
  refine cond_b hS rfl (fun hc0 => ?_) (fun hc0 => ?_)
  ·skip
   have hil : i < (roomN room) := by simp at hc0; omega
   have hrl := roomN_le room
   refine wp_skip (then_n (wp_seq (wp_block (wp_seq ?_))))
   refine region_q hS
     (cF rfl (oM .t) r1 trivial
     (cF rfl (oN .t) r1 trivial
     Chain.nil))
     hB ?_
   clear hS; intro a w F hS
   obtain ⟨F, hS⟩ := hS.nm [15, 14, 4, 3, 2] [102, 101, 61, 60, 51, 50, 3, 1, 0] rfl rfl
   try dsimp only [rV, rMk, mapS, rInt] at hS
   refine then_n (wp_seq ?_)
   replace hS := hS.dupG 1 70 rfl rfl
   refine region_any (by kernel_rfl) hS (by kernel_rfl)
     (cF rfl (oM .t) r1 trivial
     (cF rfl (oM .t) r1 trivial
     (cF rfl (o_nilCheck 102 .is (by rfl)) r1 r1
     (cF rfl (oF 1 102 .adr) r1 r1
     (cF rfl (oL false 1 102 .adr) r1 r1
     (cF rfl (oM .t) r1 trivial
     (cF rfl (o_nilCheck 102 .is (by rfl)) r1 r1
     (cF rfl (oF 0 102 .adr) r1 r1
     (cF rfl (oL false 1 102 .adr) r1 r1
     (cF rfl (OpC.lend 3 [26] clo_read (oP (nodesF_c (roomN room) []) Tryd.func15 (Args.one .t)) ⟨rfl, trivial⟩ (.pv (fun _ _ _ _ h => h)) trivial (by rfl)) r1 r1
     (cF rfl (o_callNg 70 (newS_c ((roomN room) : Int)) Tryd.func41 rfl (by kernel_rfl) (Args.one .t) PV.ptr_one) r1 r1
     (cF rfl (o_fnSame (i := 28) (j := 28) (p := fun z => .arr 1 [.is z]) (by rfl) (fun z => o_buildSliceE (sz := 1) (zs := [.pointer none]) (r := [(0, .tmp 28)]) (l := [_]) Tryd.underlying69 (by kernel_rfl) (by kernel_rfl) (by kernel_rfl) (by kernel_rfl) rfl rfl (.one rfl .t one_is (by kernel_rfl) .nil) rfl)) r1 trivial
     (cF rfl (o_fnOb (i := 29) (j := 28) (by rfl) (fun z => o_append (sz := 1) (bs := 8) 50 (.mk' Tryd.underlying69 (by kernel_rfl) (by kernel_rfl)) (by intro x; rfl) .is (.arr (l' := [z]) .t) (by simp only [List.length_append, List.length_cons, List.length_nil, mkL_len]; omega) (by decide))) ⟨rfl, rfl, trivial⟩ ⟨rfl, trivial⟩
     (cF rfl (o_nilCheck 102 .is (by rfl)) r1 r1
     (cF rfl (oF 1 102 .adr) r1 r1
     (cF rfl (o_storeS 102 .adr (by kernel_rfl) (by kernel_rfl)) r2 r1
     Chain.nil))))))))))))))))
     (by kernel_rfl) (by rw [hB]; kernel_rfl) ?_
   clear hS; intro a w F hS
   replace hS := hS.sub
   obtain ⟨F, hS⟩ := hS.nm [15, 14, 4, 3, 2] [102, 101, 70, 61, 60, 51, 50, 3, 1, 0] rfl rfl
   try dsimp only [RS.sub, SF.sub, CF.sub, csub, Anc.sub, List.map, stCells, xL, xM, Nat.reduceAdd, xD, xE, xT, xU, xC, xN, zCF, ldSF, rV, rMk, mapS, rInt] at hS
   generalize Act.tau a 28 = v28 at hS
   generalize Act.tau a 30 = v30 at hS
   rw [rowN_nat (by omega)] at hS
   replace hS := hS.turn 70 rfl (r' := RS.hp (setP (roomN room) (v28, []))) (fun _ _ _ _ h => h)
   obtain ⟨F, hS⟩ := Sat.pushFam (setP (roomN room)) (L := famL p1 (fun k => nextQ [] (roomN room) (k : Int))) (x := (v28, [])) hS 60 70 rfl rfl rfl
   rw [famL_push' (by exact (nextQ_nil _ _).symm)] at hS
   obtain ⟨F, hS⟩ := hS.nm [15, 14, 4, 3, 2] [102, 101, 61, 60, 51, 50, 3, 1, 0] rfl rfl
   refine then_n (wp_seq ?_)
   replace hS := hS.dupG 1 71 rfl rfl
   refine region_any (by kernel_rfl) hS (by kernel_rfl)
     (cF rfl (oM .t) r1 trivial
     (cF rfl (oM .t) r1 trivial
     (cF rfl (o_nilCheck 102 .is (by rfl)) r1 r1
     (cF rfl (oF 2 102 .adr) r1 r1
     (cF rfl (oL false 1 102 .adr) r1 r1
     (cF rfl (oM .t) r1 trivial
     (cF rfl (oM .t) r1 trivial
     (cF rfl (o_nilCheck 102 .is (by rfl)) r1 r1
     (cF rfl (oF 0 102 .adr) r1 r1
     (cF rfl (oL false 1 102 .adr) r1 r1
     (cF rfl (OpC.lend 3 [42] clo_read (oP (nodesF_c (roomN room) []) Tryd.func15 (Args.one .t)) ⟨rfl, trivial⟩ (.pv (fun _ _ _ _ h => h)) trivial (by rfl)) r1 r1
     (cF rfl (o_callNg 71 (newS_c ((roomN room) : Int)) Tryd.func41 rfl (by kernel_rfl) (Args.one .t) PV.ptr_one) r1 r1
     (cF rfl (oB [(0, .tmp 38), (1, .tmp 44)] [.int .i64 0, .pointer none] [(0, 1), (1, 1)] (.one rfl .t one_int (by kernel_rfl) (.same rfl (by kernel_rfl) .nil))) r2 trivial
     (cF rfl (o_aggFn (i := 45) (j := 44) (p := fun z => .arr 1 [.int .i64 (i : Int), .is z]) (cs := fun z => [.pv (.int .i64 (i : Int)), .pv (.is z)]) (by rfl) cfs_mark (fun z => o_buildSliceE (sz := 2) (zs := [.int .i64 0, .pointer none]) (r := [(0, .tmp 45)]) (l := [_, _]) Tryd.underlying85 (by kernel_rfl) (by kernel_rfl) (by kernel_rfl) (by kernel_rfl) rfl rfl (.agg rfl .t (by kernel_rfl) (by kernel_rfl) .nil) rfl)) r1 trivial
     (cF rfl (o_fnOb (i := 46) (j := 44) (by rfl) (fun z => o_append (sz := 2) (bs := 16) 51 (.mk' Tryd.underlying85 (by kernel_rfl) (by kernel_rfl)) (by intro x; rfl) .is (.arr (l' := [((i : Int), z)]) .t) (by simp only [List.length_append, List.length_cons, List.length_nil, mkL_len]; omega) (by decide))) ⟨rfl, rfl, trivial⟩ ⟨rfl, trivial⟩
     (cF rfl (o_nilCheck 102 .is (by rfl)) r1 r1
     (cF rfl (oF 2 102 .adr) r1 r1
     (cF rfl (o_storeS 102 .adr (by kernel_rfl) (by kernel_rfl)) r2 r1
     Chain.nil))))))))))))))))))
     (by kernel_rfl) (by rw [hB]; kernel_rfl) ?_
   clear hS; intro a w F hS
   replace hS := hS.sub
   obtain ⟨F, hS⟩ := hS.nm [15, 14, 4, 3, 2] [102, 101, 71, 61, 60, 51, 50, 3, 1, 0] rfl rfl
   try dsimp only [RS.sub, SF.sub, CF.sub, csub, Anc.sub, List.map, stCells, xL, xM, Nat.reduceAdd, xD, xE, xT, xU, xC, xN, zCF, ldSF, rV, rMk, mapS, rInt] at hS
   generalize Act.tau a 44 = v44 at hS
   generalize Act.tau a 47 = v47 at hS
   rw [rowN_nat (by omega)] at hS
   replace hS := hS.turn 71 rfl (r' := RS.hp (setP (roomN room) (v44, []))) (fun _ _ _ _ h => h)
   obtain ⟨F, hS⟩ := Sat.pushFam (setP (roomN room)) (L := famL p2 (fun _ : Nat => ([] : List Int))) (x := (v44, [])) hS 61 71 rfl rfl rfl
   rw [famL_push' (by exact (rfl).symm)] at hS
   obtain ⟨F, hS⟩ := hS.nm [15, 14, 4, 3, 2] [102, 101, 61, 60, 51, 50, 3, 1, 0] rfl rfl
   rw [show mkL p2 (msN i) ++ [((i : Int), v44)] = mkL (p2 ++ [v44]) (msN (i + 1)) from by rw [msN_next]; exact Eq.symm (mkL_push (ks := p2) (ms := msN i) (m := ((i : Int), [])) (by have := msN_len i; omega))] at hS
   refine then_n ?_
   refine region_q hS
     (cF rfl (oM .t) r1 trivial
     (cF rfl (o_nilCheck 102 .is (by rfl)) r1 r1
     (cF rfl (oF 3 102 .adr) r1 r1
     (cF rfl (oL false 1 102 .adr) r1 r1
     (cF rfl (oM .t) r1 trivial
     (cF rfl (o_mapUpdateG (ek := (fun c : Int => PV.int .i64 c)) 101 Tryd.underlying84 (key_intG Tryd.underlying3) .is (IsKeyOf.int .t rfl) (.ci (by kernel_rfl))) r2 r1
     Chain.nil))))))
     hB ?_
   clear hS; intro a w F hS
   obtain ⟨F, hS⟩ := hS.nm [15, 14, 3, 2] [102, 101, 61, 60, 51, 50, 3, 1, 0] rfl rfl
   try dsimp only [List.map, xD, xE, xT, xU, ldSF, rV, rMk, mapS, rInt] at hS
   refine block_n (then_n ?_)
   refine region_q hS
     (cF rfl (o_add .t (.ci (by kernel_rfl))) r1 trivial
     (cF rfl (oM .t) r1 trivial
     Chain.nil))
     hB ?_
   clear hS; intro a w F hS
   obtain ⟨F, hS⟩ := hS.nm [15, 14, 3, 2] [102, 101, 61, 60, 51, 50, 3, 1, 0] rfl rfl
   try dsimp only [rV, rMk, mapS, rInt] at hS
   refine then_n ?_
   replace hS := hS.ent (i := 15) (s' := .pv (.int .i64 ((i + 1 : Nat) : Int))) rfl (.int (wrap_succ (by omega)))
   obtain ⟨F, hS⟩ := hS.nm [14, 3, 2, 15] [3, 1, 0, 61, 60, 51, 50, 101, 102] rfl rfl
   exact ⟨((i + 1), (v30), ((p1 ++ [v28])), (v47), ((p2 ++ [v44])), ((gPut (i : Int) 1 (es, ck)).1), ((gPut (i : Int) 1 (es, ck)).2)), F, ⟨by omega, by rw [List.length_append, List.length_singleton, hp1], by rw [List.length_append, List.length_singleton, hp2], hsz.new⟩, hS, (by show _ - (i + 1) < _ - i; omega)⟩
  have hil : i = (roomN room) := by simp at hc0; omega
  have hrl := roomN_le room
  subst hil
  replace hS := hS.turn 61 rfl (r' := famS (setP (roomN room)) (famL p2 fun k => (Go.Gm.nth (msN (roomN room)) k).2)) (by rw [← famL_congr (ps := p2) (f := (fun _ : Nat => ([] : List Int))) (g := fun k => (Go.Gm.nth (msN (roomN room)) k).2) (fun k hk => by rw [msN_nth (by omega)])]; exact fun _ _ _ _ h => h)
  refine wp_exit (then_x (then_x (block_x (then_n (wp_seq ?_)))))
  replace hS := hS.dupG 1 72 rfl rfl
  refine region_q hS
    (cF rfl (oM .t) r1 trivial
    (cF rfl (oM .t) r1 trivial
    (cF rfl (o_nilCheck 102 .is (by rfl)) r1 r1
    (cF rfl (oF 0 102 .adr) r1 r1
    (cF rfl (oL false 1 102 .adr) r1 r1
    (cF rfl (OpC.lend 3 [60] clo_read (oP (nodesF_c (roomN room) []) Tryd.func15 (Args.one .t)) ⟨rfl, trivial⟩ (.pv (fun _ _ _ _ h => h)) trivial (by rfl)) r1 r1
    (cF rfl (o_callNg 72 (newS_c ((roomN room) : Int)) Tryd.func41 rfl (by kernel_rfl) (Args.one .t) PV.ptr_one) r1 r1
    (cF rfl (o_nilCheck 102 .is (by rfl)) r1 r1
    (cF rfl (oF 4 102 .adr) r1 r1
    (cF rfl (o_storeS 102 .adr (by kernel_rfl) (by kernel_rfl)) r2 r1
    Chain.nil))))))))))
    hB ?_
  clear hS; intro a w F hS
  replace hS := hS.sub
  obtain ⟨F, hS⟩ := hS.nm [3, 2] [102, 101, 72, 61, 60, 51, 50, 3, 1, 0] rfl rfl
  try dsimp only [RS.sub, SF.sub, CF.sub, csub, Anc.sub, List.map, stCells, xL, xM, Nat.reduceAdd, xD, xE, xT, xU, xC, xN, zCF, ldSF, rV, rMk, mapS, rInt] at hS
  generalize Act.tau a 62 = v62 at hS
  rw [rowN_nat (by omega)] at hS
  refine then_n (wp_seq ?_)
  refine region_q hS
    (cF rfl (oM .t) r1 trivial
    (cF rfl (oN .t) r1 trivial
    Chain.nil))
    hB ?_
  clear hS; intro a w F hS
  obtain ⟨F, hS⟩ := hS.nm [2] [102, 101, 72, 61, 60, 51, 50, 3, 1, 0] rfl rfl
  try dsimp only [rV, rMk, mapS, rInt] at hS
  refine then_n (wp_ret ?_)
  replace hS := hS.turn 72 rfl (r' := RS.hp (setH v62 (roomN room) [])) (fun _ _ _ _ h => h)
  obtain ⟨b, rfl⟩ := hS.shape 102 rfl
  obtain ⟨F, hS⟩ := hS.nm [2] [102, 101, 72, 61, 60, 51, 50, 3, 0] rfl rfl
  have hS := hS.fresh 1 rfl
  obtain ⟨F, hS⟩ := hS.push 1 72 rfl rfl rfl (by kernel_rfl)
  obtain ⟨F, hS⟩ := hS.push 1 61 rfl rfl rfl (by kernel_rfl)
  obtain ⟨F, hS⟩ := hS.push 1 60 rfl rfl rfl (by kernel_rfl)
  obtain ⟨F, hS⟩ := hS.push 1 101 rfl rfl rfl (by kernel_rfl)
  obtain ⟨F, hS⟩ := hS.push 1 51 rfl rfl rfl (by kernel_rfl)
  obtain ⟨F, hS⟩ := hS.push 1 50 rfl rfl rfl (by kernel_rfl)
  obtain ⟨F, hS⟩ := hS.push 1 3 rfl rfl rfl (by kernel_rfl)
  obtain ⟨F, hS⟩ := hS.push 1 102 rfl rfl rfl (by kernel_rfl)
  have hS := hS.turn 1 rfl (r' := RS.hp (coH (.pointer (some ⟨b, 0, none⟩)) (roomN room) [] [])) (fun _ _ _ _ h => ⟨(⟨v6, u1, u2, v7, v62, p1, p2, msN (roomN room), es, ck, [], []⟩ : CoS), CoOk.new (roomN_le room) (by show p1.length = _; omega) (by show p2.length = _; omega) rfl hsz rfl, h⟩)
  refine ret_N1 (h' := fun v => coH v (roomN room) [] []) hG hS rfl (.tmp rfl .nil) (.one .ptr) rfl

end Go.Proofs.YtpahapjcdldodaaDoor
