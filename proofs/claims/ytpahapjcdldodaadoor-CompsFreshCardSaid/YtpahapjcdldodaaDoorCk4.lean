/- Deeds: the document. No condition beyond those that each theorem says. -/
import Derived.Test.YtpahapjcdldodaaDoorCk3
namespace Go.Proofs.YtpahapjcdldodaaDoor
open Go Go.Gm
set_option linter.unusedVariables false
set_option linter.unusedSimpArgs false
set_option maxHeartbeats 4000000
set_option maxRecDepth 8000


theorem count24_c (q : List PairD) (u v : Int) : FnP Tryd.prog 17 [.sl rPair q, .int .i64 u, .int .i64 v] (.int .i64 ((q.count ⟨u, v⟩ : Nat) : Int)) := by
  refine FnP.mk Tryd.func17 rfl Tryd.ntmps17 rfl ?_
  intro B a w F hB hfr hS
  have hll := Sat.lenSl hS (i := 0) rfl
  refine wp_seq ?_
  refine region_q hS
    (cF rfl (oN (.ci (by kernel_rfl))) trivial trivial
    Chain.nil)
    hB ?_
  clear hS; intro a w F hS
  obtain ⟨F, hS⟩ := hS.nm [6, 2, 1, 0] [0] rfl rfl
  try dsimp only [rPair] at hS
  refine then_n (wp_seq ?_)
  refine region_q hS
    (cF rfl (oN (.ci (by kernel_rfl))) trivial trivial
    Chain.nil)
    hB ?_
  clear hS; intro a w F hS
  obtain ⟨F, hS⟩ := hS.nm [7, 6, 2, 1, 0] [0] rfl rfl
  try dsimp only [rPair] at hS
  refine then_n (wp_seq (wp_seq ?_))
  refine region_q hS
    (cF rfl (oM .t) r1 trivial
    (cF rfl (o_len_sl Tryd.underlying27 .t) r1 trivial
    (cF rfl (oM (.ci (by kernel_rfl))) trivial trivial
    Chain.nil)))
    hB ?_
  clear hS; intro a w F hS
  obtain ⟨F, hS⟩ := hS.nm [12, 11, 10, 7, 6, 2, 1] [0] rfl rfl
  try dsimp only [rPair] at hS
  refine then_n (wp_block ?_)
  refine loop_keep (σ := (Nat)) [1, 2, 6, 10, 11] [0] (fun s => [(12, .pv (.int .i64 (s : Int))), (7, .pv (.int .i64 (((q.take s).count ⟨u, v⟩ : Nat) : Int)))]) (fun s => []) (fun s => s ≤ q.length ∧ (True)) (fun s => q.length - s) (0) hS ⟨rfl, rfl, rfl, rfl, rfl, rfl, rfl, trivial⟩ ⟨rfl, trivial⟩ ⟨Nat.zero_le _, trivial⟩ ?_
  clear hS; intro i a w F hC hS
  try dsimp only at hC
  obtain ⟨F, hS⟩ := hS.nm [12, 11, 10, 7, 6, 2, 1] [0] rfl rfl
  try dsimp only at hS
  obtain ⟨hi, hq⟩ := hC
  have hcl : (q.take i).count ⟨u, v⟩ ≤ i := Nat.le_trans List.count_le_length (by rw [List.length_take]; omega)
  refine wp_seq ?_
  refine region_q hS
    (cF rfl (o_lss .t .t) r2 trivial
    Chain.nil)
    hB ?_
  clear hS; intro a w F hS
  obtain ⟨F, hS⟩ := hS.nm [13, 12, 11, 10, 7, 6, 2, 1] [0] rfl rfl
  try dsimp only [rPair] at hS
  refine then_n (wp_seq ?_)
  refine cond_b hS rfl (fun hc0 => ?_) (fun hc0 => ?_)
  ·skip
   have hil : i < q.length := by simp at hc0; omega
   refine wp_skip (then_n (wp_seq (wp_block (wp_seq ?_))))
   refine region_q hS
     (cF rfl (o_indexAddr_sl (sz := 2) (.mk Tryd.underlying27 (by kernel_rfl)) (by intro x; rfl) .t .t (by omega) (by omega)) r2 trivial
     (cF rfl (oR true 2 .t) r1 trivial
     (cF rfl (oH [.int .i64 0, .int .i64 0] 101) trivial trivial
     (cF rfl (oA 2 101 .same .t) r2 r1
     Chain.nil))))
     hB ?_
   clear hS; intro a w F hS
   replace hS := hS.sub
   obtain ⟨F, hS⟩ := hS.nm [15, 14, 13, 12, 11, 10, 9, 7, 6, 2, 1] [101, 0] rfl rfl
   try dsimp only [RS.sub, SF.sub, CF.sub, csub, Anc.sub, List.map, stCells, xL, xM, Nat.reduceAdd, xD, xE, xT, xU, xC, xN, zCF, ldSF, rPair] at hS
   generalize Act.tau a 9 = v9 at hS
   try simp only [Int.toNat_natCast] at hS
   refine then_n (wp_seq ?_)
   refine region_q hS
     (cF rfl (oL true 2 101 .is) r1 r1
     (cF rfl (oM .t) r1 trivial
     (cF rfl (oM .t) r1 trivial
     (cF rfl (oB [(0, .tmp 17), (1, .tmp 18)] [.int .i64 0, .int .i64 0] [(0, 1), (1, 1)] (.one rfl .t one_int (by kernel_rfl) (.one rfl .t one_int (by kernel_rfl) .nil))) r2 trivial
     (cF rfl (o_eqlS (ks := [true, true]) (by kernel_rfl) .t .t (.int (.int .nil))) r2 trivial
     Chain.nil)))))
     hB ?_
   clear hS; intro a w F hS
   obtain ⟨F, hS⟩ := hS.nm [20, 19, 18, 17, 16, 15, 14, 13, 12, 11, 10, 9, 7, 6, 2, 1] [101, 0] rfl rfl
   try dsimp only [List.map, stCells, xL, xM, Nat.reduceAdd, xD, xE, xT, xU, xC, xN, zCF, ldSF, rPair] at hS
   refine then_n ?_
   refine cond_b hS rfl (fun hc1 => ?_) (fun hc1 => ?_)
   ·skip
    have hBq : ((Go.Gm.nth q i) = ⟨u, v⟩) = True := eq_true (by rw [eqPD (Go.Gm.nth q i) ⟨u, v⟩] at hc1; simpa using hc1)
    refine region_q hS
      (cF rfl (oM .t) r1 trivial
      (cF rfl (o_add .t (.ci (by kernel_rfl))) r1 trivial
      (cF rfl (oN .t) r1 trivial
      Chain.nil)))
      hB ?_
    clear hS; intro a w F hS
    obtain ⟨F, hS⟩ := hS.nm [22, 21, 20, 19, 18, 17, 16, 15, 14, 13, 12, 11, 10, 9, 7, 6, 2, 1] [101, 0] rfl rfl
    try dsimp only [rPair] at hS
    refine block_n (then_n ?_)
    refine region_q hS
      (cF rfl (o_add .t (.ci (by kernel_rfl))) r1 trivial
      (cF rfl (oM .t) r1 trivial
      Chain.nil))
      hB ?_
    clear hS; intro a w F hS
    obtain ⟨F, hS⟩ := hS.nm [23, 22, 21, 20, 19, 18, 17, 16, 15, 14, 13, 12, 11, 10, 9, 7, 6, 2, 1] [101, 0] rfl rfl
    try dsimp only [rPair] at hS
    refine then_n ?_
    replace hS := hS.ent (i := 12) (s' := .pv (.int .i64 ((i + 1 : Nat) : Int))) rfl (.int (wrap_succ (by omega)))
    replace hS := hS.ent (i := 7) (s' := .pv (.int .i64 (((q.take (i + 1)).count ⟨u, v⟩ : Nat) : Int))) rfl (.int (by rw [count_next hil]; simp only [hBq, if_true, if_false]; first | exact wrap_succ (by omega) | simp))
    obtain ⟨F, hS⟩ := hS.nm [11, 10, 6, 2, 1, 7, 12] [0] rfl rfl
    exact ⟨(i + 1), F, ⟨by omega, trivial⟩, hS, by omega⟩
   have hBq : ((Go.Gm.nth q i) = ⟨u, v⟩) = False := eq_false (by rw [eqPD (Go.Gm.nth q i) ⟨u, v⟩] at hc1; simpa using hc1)
   refine wp_skip (block_n (then_n ?_))
   refine region_q hS
     (cF rfl (o_add .t (.ci (by kernel_rfl))) r1 trivial
     (cF rfl (oM .t) r1 trivial
     Chain.nil))
     hB ?_
   clear hS; intro a w F hS
   obtain ⟨F, hS⟩ := hS.nm [23, 20, 19, 18, 17, 16, 15, 14, 13, 12, 11, 10, 9, 7, 6, 2, 1] [101, 0] rfl rfl
   try dsimp only [rPair] at hS
   refine then_n ?_
   replace hS := hS.ent (i := 12) (s' := .pv (.int .i64 ((i + 1 : Nat) : Int))) rfl (.int (wrap_succ (by omega)))
   replace hS := hS.ent (i := 7) (s' := .pv (.int .i64 (((q.take (i + 1)).count ⟨u, v⟩ : Nat) : Int))) rfl (.int (by rw [count_next hil]; simp only [hBq, if_true, if_false]; first | exact wrap_succ (by omega) | simp))
   obtain ⟨F, hS⟩ := hS.nm [11, 10, 6, 2, 1, 7, 12] [0] rfl rfl
   exact ⟨(i + 1), F, ⟨by omega, trivial⟩, hS, by omega⟩
  have hil : i = q.length := by simp at hc0; omega
  refine wp_exit (then_x (then_x (block_x (then_n (wp_seq ?_)))))
  refine region_q hS
    (cF rfl (oM .t) r1 trivial
    (cF rfl (oN .t) r1 trivial
    Chain.nil))
    hB ?_
  clear hS; intro a w F hS
  obtain ⟨F, hS⟩ := hS.nm [6] [0] rfl rfl
  try dsimp only [rPair] at hS
  refine then_n (wp_ret ?_)
  refine ret_P hfr hS rfl (.tmp rfl .nil) (.one (.int (by rw [hil, List.take_length])))

theorem drop24_c (q : List PairD) (u v : Int) (hl : q.length ≤ 900000) : FnP Tryd.prog 43 [.sl rPair q, .int .i64 u, .int .i64 v] (.sl rPair (q.erase ⟨u, v⟩)) := by
  refine FnP.mk Tryd.func43 rfl Tryd.ntmps43 rfl ?_
  intro B a w F hB hfr hS
  have hll := Sat.lenSl hS (i := 0) rfl
  refine wp_seq ?_
  refine region_q hS
    (cF rfl (oN (.c rfl)) trivial trivial
    Chain.nil)
    hB ?_
  clear hS; intro a w F hS
  obtain ⟨F, hS⟩ := hS.nm [6, 2, 1, 0] [0] rfl rfl
  try dsimp only [rPair] at hS
  refine then_n (wp_seq ?_)
  refine region_q hS
    (cF rfl (oN (.c rfl)) trivial trivial
    Chain.nil)
    hB ?_
  clear hS; intro a w F hS
  obtain ⟨F, hS⟩ := hS.nm [7, 6, 2, 1, 0] [0] rfl rfl
  try dsimp only [rPair] at hS
  refine then_n (wp_seq ?_)
  refine region_q hS
    (cF rfl (oN .cb) trivial trivial
    Chain.nil)
    hB ?_
  clear hS; intro a w F hS
  obtain ⟨F, hS⟩ := hS.nm [8, 7, 6, 2, 1, 0] [0] rfl rfl
  try dsimp only [rPair] at hS
  refine then_n (wp_seq (wp_seq ?_))
  refine region_q hS
    (cF rfl (oM .t) r1 trivial
    (cF rfl (o_len_sl Tryd.underlying27 .t) r1 trivial
    (cF rfl (oM (.ci (by kernel_rfl))) trivial trivial
    Chain.nil)))
    hB ?_
  clear hS; intro a w F hS
  obtain ⟨F, hS⟩ := hS.nm [13, 12, 11, 8, 7, 6, 2, 1] [0] rfl rfl
  try dsimp only [rPair] at hS
  refine then_n (wp_block ?_)
  replace hS := hS.fresh 50 rfl
  replace hS := hS.turn 50 rfl (nilRow (T := 48) (sz := 2) (R := rPair))
  refine loop_keep (σ := (Nat) × (Bool) × (Value) × (List PairD)) [1, 2, 6, 11, 12] [0] (fun s => [(13, .pv (.int .i64 (s.1 : Int))), (8, .pv (.bool s.2.1)), (7, .pv (.is s.2.2.1))]) (fun s => [(50, .ob (.val s.2.2.1) (rowH 48 2 rPair s.2.2.2))]) (fun s => s.1 ≤ q.length ∧ (s.2.2.2 ++ dropS s.2.1 ⟨u, v⟩ (q.drop s.1) = q.erase ⟨u, v⟩ ∧ s.2.2.2.length ≤ s.1)) (fun s => q.length - s.1) ((0), (false), (.slice none 0 0), ([])) hS ⟨rfl, rfl, rfl, rfl, rfl, rfl, rfl, rfl, trivial⟩ ⟨rfl, rfl, trivial⟩ ⟨Nat.zero_le _, ⟨rfl, Nat.le_refl _⟩⟩ ?_
  clear hS; intro s a w F hC hS
  obtain ⟨i, d, w9, out⟩ := s
  try dsimp only at hC
  obtain ⟨F, hS⟩ := hS.nm [13, 12, 11, 8, 7, 6, 2, 1] [50, 0] rfl rfl
  try dsimp only at hS
  obtain ⟨hi, hq⟩ := hC
  obtain ⟨hq, hol⟩ := hq
  refine wp_seq ?_
  refine region_q hS
    (cF rfl (o_lss .t .t) r2 trivial
    Chain.nil)
    hB ?_
  clear hS; intro a w F hS
  obtain ⟨F, hS⟩ := hS.nm [14, 13, 12, 11, 8, 7, 6, 2, 1] [50, 0] rfl rfl
  try dsimp only [rPair] at hS
  refine then_n (wp_seq ?_)
  refine cond_b hS rfl (fun hc0 => ?_) (fun hc0 => ?_)
  ·skip
   have hil : i < q.length := by simp at hc0; omega
   refine wp_skip (then_n (wp_seq (wp_block (wp_seq ?_))))
   refine region_q hS
     (cF rfl (o_indexAddr_sl (sz := 2) (.mk Tryd.underlying27 (by kernel_rfl)) (by intro x; rfl) .t .t (by omega) (by omega)) r2 trivial
     (cF rfl (oR true 2 .t) r1 trivial
     (cF rfl (oH [.int .i64 0, .int .i64 0] 101) trivial trivial
     (cF rfl (oA 2 101 .same .t) r2 r1
     Chain.nil))))
     hB ?_
   clear hS; intro a w F hS
   replace hS := hS.sub
   obtain ⟨F, hS⟩ := hS.nm [16, 15, 14, 13, 12, 11, 10, 8, 7, 6, 2, 1] [101, 50, 0] rfl rfl
   try dsimp only [RS.sub, SF.sub, CF.sub, csub, Anc.sub, List.map, stCells, xL, xM, Nat.reduceAdd, xD, xE, xT, xU, xC, xN, zCF, ldSF, rPair] at hS
   generalize Act.tau a 10 = v10 at hS
   try simp only [Int.toNat_natCast] at hS
   refine then_n (wp_seq ?_)
   refine region_q hS
     (cF rfl (oM .t) r1 trivial
     (cF rfl (o_not .t) r1 trivial
     (cF rfl (oM .t) r1 trivial
     (Chain.cons (Cert.cond rfl rfl (fun h => o_load (ag := true) (sz := 2) 101 .is (by kernel_rfl) (by kernel_rfl) (by kernel_rfl) (by rfl))) r2 r1
     (Chain.cons (Cert.cond rfl rfl (fun h => o_move .t (by rfl))) r2 trivial
     (Chain.cons (Cert.cond rfl rfl (fun h => o_move .t (by rfl))) r2 trivial
     (Chain.cons (Cert.cond rfl rfl (fun h => o_build (r := [(0, .tmp 21), (1, .tmp 22)]) (zs := [.int .i64 0, .int .i64 0]) (pl := [(0, 1), (1, 1)]) (by kernel_rfl) (by kernel_rfl) (.one rfl (.w h) one_int (by kernel_rfl) (.one rfl (.w h) one_int (by kernel_rfl) .nil)) (by rfl))) r3 trivial
     (Chain.cons (Cert.cond rfl rfl (fun h => o_eqlS (ks := [true, true]) (by kernel_rfl) (.w h) (.w h) (.int (.int .nil)))) r3 trivial
     (cF rfl (o_and2 .t .t) r2 trivial
     Chain.nil)))))))))
     hB ?_
   clear hS; intro a w F hS
   obtain ⟨F, hS⟩ := hS.nm [25, 24, 23, 22, 21, 20, 19, 18, 17, 16, 15, 14, 13, 12, 11, 10, 8, 7, 6, 2, 1] [101, 50, 0] rfl rfl
   try dsimp only [List.map, stCells, xL, xM, Nat.reduceAdd, xD, xE, xT, xU, xC, xN, zCF, ldSF, rPair] at hS
   refine then_n ?_
   refine cond_b hS rfl (fun hc1 => ?_) (fun hc1 => ?_)
   ·skip
    have hBq : d = false ∧ (Go.Gm.nth q i) = ⟨u, v⟩ := by rw [eqPD (Go.Gm.nth q i) ⟨u, v⟩] at hc1; simpa using hc1
    refine region_q hS
      (cF rfl (oN .cb) trivial trivial
      Chain.nil)
      hB ?_
    clear hS; intro a w F hS
    obtain ⟨F, hS⟩ := hS.nm [25, 24, 23, 22, 21, 20, 19, 18, 17, 16, 15, 14, 13, 12, 11, 10, 8, 7, 6, 2, 1] [101, 50, 0] rfl rfl
    try dsimp only [rPair] at hS
    refine block_n (then_n ?_)
    refine region_q hS
      (cF rfl (o_add .t (.ci (by kernel_rfl))) r1 trivial
      (cF rfl (oM .t) r1 trivial
      Chain.nil))
      hB ?_
    clear hS; intro a w F hS
    obtain ⟨F, hS⟩ := hS.nm [30, 25, 24, 23, 22, 21, 20, 19, 18, 17, 16, 15, 14, 13, 12, 11, 10, 8, 7, 6, 2, 1] [101, 50, 0] rfl rfl
    try dsimp only [rPair] at hS
    refine then_n ?_
    replace hS := hS.ent (i := 13) (s' := .pv (.int .i64 ((i + 1 : Nat) : Int))) rfl (.int (wrap_succ (by omega)))
    obtain ⟨F, hS⟩ := hS.nm [12, 11, 6, 2, 1, 7, 8, 13] [0, 50] rfl rfl
    exact ⟨((i + 1), _, _, _), F, ⟨by omega, ⟨by rw [drop_nth hil] at hq; obtain ⟨hd, hx⟩ := hBq; subst hd; exact drop_TT hq hx, by show out.length ≤ i + 1; omega⟩⟩, hS, by omega⟩
   have hBq : ¬ (d = false ∧ (Go.Gm.nth q i) = ⟨u, v⟩) := by rw [eqPD (Go.Gm.nth q i) ⟨u, v⟩] at hc1; simpa using hc1
   refine region_q hS
     (cF rfl (oM .t) r1 trivial
     (cF rfl (oL true 2 101 .is) r1 r1
     (cF rfl (o_buildSliceE (sz := 2) (zs := [.int .i64 0, .int .i64 0]) (r := [(0, .tmp 27)]) (l := [_, _]) Tryd.underlying27 (by kernel_rfl) (by kernel_rfl) (by kernel_rfl) (by kernel_rfl) rfl rfl (.agg rfl .t (by kernel_rfl) (by kernel_rfl) .nil) rfl) r1 trivial
     (cF rfl (o_append (sz := 2) (bs := 16) 50 (.mk' Tryd.underlying27 (by kernel_rfl) (by kernel_rfl)) (by intro x; rfl) .is (.arr (l' := [_]) .t) (by simp only [List.length_append, List.length_cons, List.length_nil]; omega) (by decide)) ⟨rfl, rfl, trivial⟩ ⟨rfl, trivial⟩
     (cF rfl (oN .t) r1 trivial
     Chain.nil)))))
     hB ?_
   clear hS; intro a w F hS
   replace hS := hS.sub
   obtain ⟨F, hS⟩ := hS.nm [29, 28, 27, 26, 25, 24, 23, 22, 21, 20, 19, 18, 17, 16, 15, 14, 13, 12, 11, 10, 8, 7, 6, 2, 1] [101, 50, 0] rfl rfl
   try dsimp only [RS.sub, SF.sub, CF.sub, csub, Anc.sub, List.map, stCells, xL, xM, Nat.reduceAdd, xD, xE, xT, xU, xC, xN, zCF, ldSF, rPair] at hS
   generalize Act.tau a 29 = v29 at hS
   refine block_n (then_n ?_)
   refine region_q hS
     (cF rfl (o_add .t (.ci (by kernel_rfl))) r1 trivial
     (cF rfl (oM .t) r1 trivial
     Chain.nil))
     hB ?_
   clear hS; intro a w F hS
   obtain ⟨F, hS⟩ := hS.nm [30, 29, 28, 27, 26, 25, 24, 23, 22, 21, 20, 19, 18, 17, 16, 15, 14, 13, 12, 11, 10, 8, 7, 6, 2, 1] [101, 50, 0] rfl rfl
   try dsimp only [rPair] at hS
   refine then_n ?_
   replace hS := hS.ent (i := 13) (s' := .pv (.int .i64 ((i + 1 : Nat) : Int))) rfl (.int (wrap_succ (by omega)))
   obtain ⟨F, hS⟩ := hS.nm [12, 11, 6, 2, 1, 7, 8, 13] [0, 50] rfl rfl
   exact ⟨((i + 1), _, _, _), F, ⟨by omega, ⟨by rw [drop_nth hil] at hq; exact drop_FT hq hBq, by simp only [List.length_append, List.length_cons, List.length_nil]; omega⟩⟩, hS, by omega⟩
  have hil : i = q.length := by simp at hc0; omega
  refine wp_exit (then_x (then_x (block_x (then_n (wp_seq ?_)))))
  refine region_q hS
    (cF rfl (oM .t) r1 trivial
    (cF rfl (oN .t) r1 trivial
    Chain.nil))
    hB ?_
  clear hS; intro a w F hS
  obtain ⟨F, hS⟩ := hS.nm [6] [50, 0] rfl rfl
  try dsimp only [rPair] at hS
  refine then_n (wp_ret ?_)
  obtain ⟨F, hS⟩ := hS.give 50 6 rfl rfl
  refine ret_P hfr hS rfl (.tmp rfl .nil) (.one (.sl (by rw [← hq, hil, List.drop_length]; cases d <;> simp [dropS])))

theorem room21_c (m : Int) : FnP Tryd.prog 9 [.int .i64 m] (.int .i64 (roomN m)) := by
  refine FnP.mk Tryd.func9 rfl Tryd.ntmps9 rfl ?_
  intro B a w F hB hfr hS
  refine wp_seq ?_
  refine region_q hS
    (cF rfl (oN (.ci (by kernel_rfl))) trivial trivial
    Chain.nil)
    hB ?_
  clear hS; intro a w F hS
  obtain ⟨F, hS⟩ := hS.nm [2, 0] [0] rfl rfl
  refine then_n (wp_seq (wp_seq ?_))
  refine region_q hS
    (cF rfl (oM .t) r1 trivial
    (cF rfl (o_lss .t (.ci (by kernel_rfl))) r1 trivial
    Chain.nil))
    hB ?_
  clear hS; intro a w F hS
  obtain ⟨F, hS⟩ := hS.nm [4, 2, 0] [0] rfl rfl
  refine then_n ?_
  refine cond_b hS rfl (fun hc0 => ?_) (fun hc0 => ?_)
  ·skip
   refine wp_seq ?_
   refine region_q hS
     (cF rfl (oN (.ci (by kernel_rfl))) trivial trivial
     Chain.nil)
     hB ?_
   clear hS; intro a w F hS
   obtain ⟨F, hS⟩ := hS.nm [2, 0] [0] rfl rfl
   refine then_n (wp_ret (then_r ?_))
   refine ret_P hfr hS rfl (.tmp rfl .nil) (.one (.int (by unfold roomN; split <;> (try split) <;> simp_all <;> omega)))
  refine wp_skip (then_n (wp_seq (wp_seq ?_)))
  refine region_q hS
    (cF rfl (oM .t) r1 trivial
    (cF rfl (o_gtr .t (.ci (by kernel_rfl))) r1 trivial
    Chain.nil))
    hB ?_
  clear hS; intro a w F hS
  obtain ⟨F, hS⟩ := hS.nm [6, 2, 0] [0] rfl rfl
  refine then_n ?_
  refine cond_b hS rfl (fun hc1 => ?_) (fun hc1 => ?_)
  ·skip
   refine wp_seq ?_
   refine region_q hS
     (cF rfl (oN (.ci (by kernel_rfl))) trivial trivial
     Chain.nil)
     hB ?_
   clear hS; intro a w F hS
   obtain ⟨F, hS⟩ := hS.nm [2, 0] [0] rfl rfl
   refine then_n (wp_ret (then_r ?_))
   refine ret_P hfr hS rfl (.tmp rfl .nil) (.one (.int (by unfold roomN; split <;> (try split) <;> simp_all <;> omega)))
  refine wp_skip (then_n (wp_seq ?_))
  refine region_q hS
    (cF rfl (oM .t) r1 trivial
    (cF rfl (oN .t) r1 trivial
    Chain.nil))
    hB ?_
  clear hS; intro a w F hS
  obtain ⟨F, hS⟩ := hS.nm [2] [0] rfl rfl
  refine then_n (wp_ret ?_)
  refine ret_P hfr hS rfl (.tmp rfl .nil) (.one (.int (by unfold roomN; split <;> (try split) <;> simp_all <;> omega)))

end Go.Proofs.YtpahapjcdldodaaDoor
