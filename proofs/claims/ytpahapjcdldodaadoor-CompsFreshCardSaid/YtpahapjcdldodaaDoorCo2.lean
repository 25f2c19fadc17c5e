/- Components: parts, the document. No condition beyond those that each theorem says. -/
import Derived.Test.YtpahapjcdldodaaDoorCo1
namespace Go.Proofs.YtpahapjcdldodaaDoor
open Go Go.Gm
set_option linter.unusedVariables false
set_option linter.unusedSimpArgs false
set_option maxHeartbeats 4000000
set_option maxRecDepth 8000


def arcsI (n : Nat) (q : List PairD) (i : Int) (k : Nat) : List ArcD := ((arcsQ q).take k).filter (inArc n q i)
theorem arcsI_next {n : Nat} {q : List PairD} {i : Int} {k : Nat} (h : k < (arcsQ q).length) : arcsI n q i (k + 1) = arcsI n q i k ++ (if inArc n q i (Go.Gm.nth (arcsQ q) k) = true then [Go.Gm.nth (arcsQ q) k] else []) := by
  unfold arcsI
  rw [take_nth h, List.filter_append]
  congr 1
  by_cases e : inArc n q i (Go.Gm.nth (arcsQ q) k) = true <;> simp [e]
theorem arcsI_len (n : Nat) (q : List PairD) (i : Int) (k : Nat) : (arcsI n q i k).length ≤ k := by
  unfold arcsI
  exact Nat.le_trans (List.length_filter_le _ _) (by rw [List.length_take]; omega)
theorem arcsI_all (n : Nat) (q : List PairD) (i : Int) : arcsI n q i (arcsQ q).length = arcsIn n q i := by unfold arcsI arcsIn; rw [List.take_length]

theorem parts25_c (n : Nat) (q : List PairD) (hn : n ≤ 4096) (hl : q.length ≤ 900000) (hinn : InN n q) : FnP Tryd.prog 26 [.int .i64 (n : Int), .sl rPair q] (.sl rPart (partsQ n q)) := by
  refine FnP.mk Tryd.func26 rfl Tryd.ntmps26 rfl ?_
  intro B a w F hB hfr hS
  have hal := arcsQ_len q
  refine wp_seq ?_
  refine region_q hS
    (cF rfl (oN (.c rfl)) trivial trivial
    Chain.nil)
    hB ?_
  clear hS; intro a w F hS
  obtain ⟨F, hS⟩ := hS.nm [4, 1, 0] [0] rfl rfl
  try dsimp only [rArc, rInt, rPair, rRow, rPart] at hS
  refine then_n (wp_seq ?_)
  refine region_q hS
    (cF rfl (oM .t) r1 trivial
    (cF rfl (oP (arcs24_c q hl) Tryd.func33 (Args.one .t)) r1 trivial
    (cF rfl (oN .t) r1 trivial
    Chain.nil)))
    hB ?_
  clear hS; intro a w F hS
  obtain ⟨F, hS⟩ := hS.nm [5, 4, 0] [0] rfl rfl
  try dsimp only [rArc, rInt, rPair, rRow, rPart] at hS
  refine then_n (wp_seq ?_)
  refine region_q hS
    (cF rfl (oM .t) r1 trivial
    (cF rfl (oM .t) r1 trivial
    (cF rfl (oP (labels23_c n q hn hl) Tryd.func56 (Args.two .t .t)) r2 trivial
    (cF rfl (oN .t) r1 trivial
    Chain.nil))))
    hB ?_
  clear hS; intro a w F hS
  obtain ⟨F, hS⟩ := hS.nm [6, 5, 4, 0] [0] rfl rfl
  try dsimp only [rArc, rInt, rPair, rRow, rPart] at hS
  refine then_n (wp_seq ?_)
  refine region_q hS
    (cF rfl (oN (.c rfl)) trivial trivial
    Chain.nil)
    hB ?_
  clear hS; intro a w F hS
  obtain ⟨F, hS⟩ := hS.nm [7, 6, 5, 4, 0] [0] rfl rfl
  try dsimp only [rArc, rInt, rPair, rRow, rPart] at hS
  refine then_n (wp_seq (wp_seq ?_))
  refine region_q hS
    (cF rfl (oN (.ci (by kernel_rfl))) trivial trivial
    Chain.nil)
    hB ?_
  clear hS; intro a w F hS
  obtain ⟨F, hS⟩ := hS.nm [8, 7, 6, 5, 4, 0] [0] rfl rfl
  try dsimp only [rArc, rInt, rPair, rRow, rPart] at hS
  refine then_n (wp_block ?_)
  replace hS := hS.fresh 50 rfl
  replace hS := hS.turn 50 rfl (nilRow (T := 92) (sz := 2) (R := rPart))
  refine loop_keep (σ := Nat × Value × List PartD) [0, 4, 5, 6] [0] (fun s => [(8, .pv (.int .i64 (s.1 : Int))), (7, .pv (.is s.2.1))]) (fun s => [(50, .ob (.val s.2.1) (rowH 92 2 rPart s.2.2))]) (fun s => s.1 ≤ n ∧ s.2.2 = partsP n q s.1) (fun s => n - s.1) ((0), (.slice none 0 0), ([])) hS ⟨rfl, rfl, rfl, rfl, rfl, rfl, trivial⟩ ⟨rfl, rfl, trivial⟩ ⟨Nat.zero_le _, rfl⟩ ?_
  clear hS; intro s a w F hC hS
  obtain ⟨i, v, out⟩ := s
  try dsimp only at hC
  obtain ⟨F, hS⟩ := hS.nm [8, 7, 6, 5, 4, 0] [50, 0] rfl rfl
  try dsimp only at hS
  obtain ⟨hi, hq⟩ := hC
  have hol : out.length ≤ i := by rw [hq]; exact partsP_len _ _ _
  refine wp_seq (wp_seq ?_)
  refine region_q hS
    (cF rfl (oM .t) r1 trivial
    (cF rfl (oM .t) r1 trivial
    (cF rfl (o_lss .t .t) r2 trivial
    Chain.nil)))
    hB ?_
  clear hS; intro a w F hS
  obtain ⟨F, hS⟩ := hS.nm [19, 8, 7, 6, 5, 4, 0] [50, 0] rfl rfl
  try dsimp only [rArc, rInt, rPair, rRow, rPart] at hS
  refine then_n ?_
  refine cond_b hS rfl (fun hc0 => ?_) (fun hc0 => ?_)
  ·skip
   have hin : i < n := by simp at hc0; omega
   have hqo := hq
   refine wp_skip (then_n (wp_seq (wp_block (wp_seq (wp_seq ?_)))))
   refine region_q hS
     (cF rfl (oM .t) r1 trivial
     (cF rfl (oM .t) r1 trivial
     (cF rfl (o_indexAddr_sl (sz := 1) (.mk Tryd.underlying30 (by kernel_rfl)) (by intro x; rfl) .t .t (by omega) (by rw [labsQ_len]; omega)) r2 trivial
     (cF rfl (oR false 1 .t) r1 trivial
     (cF rfl (oM .t) r1 trivial
     (cF rfl (o_neq .t .t) r2 trivial
     Chain.nil))))))
     hB ?_
   clear hS; intro a w F hS
   obtain ⟨F, hS⟩ := hS.nm [27, 8, 7, 6, 5, 4, 0] [50, 0] rfl rfl
   try dsimp only [List.map, xD, xE, xT, xU, ldSF, rArc, rInt, rPair, rRow, rPart] at hS
   try simp only [Int.toNat_natCast] at hS
   refine then_n ?_
   refine cond_b hS rfl (fun hc1 => ?_) (fun hc1 => ?_)
   ·skip
    have hlb1 : ¬ labQ n q (i : Int) = (i : Int) := by
      have h9 : ¬ Go.Gm.nth (labsQ n q) i = (i : Int) := by simpa using hc1
      rwa [labsQ_nth hin] at h9
    have hlb : (labQ n q (i : Int) = (i : Int)) = False := eq_false hlb1
    refine wp_exit (then_x (block_x (then_n ?_)))
    refine region_q hS
      (cF rfl (oM .t) r1 trivial
      (cF rfl (o_add .t (.ci (by kernel_rfl))) r1 trivial
      (cF rfl (oN .t) r1 trivial
      Chain.nil)))
      hB ?_
    clear hS; intro a w F hS
    obtain ⟨F, hS⟩ := hS.nm [8, 7, 6, 5, 4, 0] [50, 0] rfl rfl
    try dsimp only [rArc, rInt, rPair, rRow, rPart] at hS
    refine then_n ?_
    replace hS := hS.ent (i := 8) (s' := .pv (.int .i64 ((i + 1 : Nat) : Int))) rfl (.int (wrap_succ (by omega)))
    obtain ⟨F, hS⟩ := hS.nm [6, 5, 4, 0, 7, 8] [0, 50] rfl rfl
    exact ⟨((i + 1), _, _), F, ⟨by omega, by rw [partsP_next, ← hqo]; simp only [hlb, if_true, if_false, List.append_nil]⟩, hS, (by show _ - (i + 1) < _ - i; omega)⟩
   have hlb0 : labQ n q (i : Int) = (i : Int) := by
     have h9 : Go.Gm.nth (labsQ n q) i = (i : Int) := by simpa using hc1
     rwa [labsQ_nth hin] at h9
   have hlb : (labQ n q (i : Int) = (i : Int)) = True := eq_true hlb0
   refine wp_skip (then_n (wp_seq ?_))
   refine region_q hS
     (cF rfl (oM .t) r1 trivial
     (cF rfl (oM .t) r1 trivial
     (cF rfl (oP (members23_c (labsQ n q) (i : Int) (by rw [labsQ_len]; omega)) Tryd.func57 (Args.two .t .t)) r2 trivial
     (cF rfl (oB [(0, .tmp 30)] [.slice none 0 0, .slice none 0 0] [(0, 1), (1, 1)] (.one rfl .t one_sl (by kernel_rfl) .nil)) r1 trivial
     (cF rfl (oH [.slice none 0 0, .slice none 0 0] 101) trivial trivial
     (cF rfl (oA 2 101 .same .t) r2 r1
     Chain.nil))))))
     hB ?_
   clear hS; intro a w F hS
   replace hS := hS.sub
   obtain ⟨F, hS⟩ := hS.nm [9, 8, 7, 6, 5, 4, 0] [101, 50, 0] rfl rfl
   try dsimp only [RS.sub, SF.sub, CF.sub, csub, Anc.sub, List.map, stCells, xL, xM, Nat.reduceAdd, xD, xE, xT, xU, xC, xN, zCF, rArc, rInt, rPair, rRow, rPart] at hS
   generalize Act.tau a 9 = v9 at hS
   rw [membersD_comp hin hlb0] at hS
   refine then_n (wp_seq (wp_seq ?_))
   refine region_q hS
     (cF rfl (oM .t) r1 trivial
     (cF rfl (o_len_sl Tryd.underlying60 .t) r1 trivial
     (cF rfl (oM (.ci (by kernel_rfl))) trivial trivial
     Chain.nil)))
     hB ?_
   clear hS; intro a w F hS
   obtain ⟨F, hS⟩ := hS.nm [34, 33, 32, 9, 8, 7, 6, 5, 4, 0] [101, 50, 0] rfl rfl
   try dsimp only [rArc, rInt, rPair, rRow, rPart] at hS
   refine then_n (wp_block ?_)
   replace hS := hS.fresh 51 rfl
   replace hS := hS.turn 51 rfl (nilRow (T := 94) (sz := 4) (R := rArc))
   refine loop_keep (σ := (Nat) × (Value) × (List ArcD)) [0, 4, 5, 6, 7, 8, 9, 32, 33] [0, 50] (fun s => [(34, .pv (.int .i64 (s.1 : Int)))]) (fun s => [(101, .pt (.val v9) 92 [.pv (.sl rInt (compQ n q (i : Int))), .pv (.is s.2.1)]), (51, .ob (.val s.2.1) (rowH 94 4 rArc s.2.2))]) (fun s => s.1 ≤ (arcsQ q).length ∧ (s.2.2 = arcsI n q (i : Int) s.1)) (fun s => (arcsQ q).length - s.1) ((0), ((.slice none 0 0)), ([])) hS ⟨rfl, rfl, rfl, rfl, rfl, rfl, rfl, rfl, rfl, rfl, trivial⟩ ⟨rfl, rfl, rfl, rfl, trivial⟩ ⟨Nat.zero_le _, rfl⟩ ?_
   clear hS; intro s a w F hC hS
   obtain ⟨j, u, ai⟩ := s
   try dsimp only at hC
   obtain ⟨F, hS⟩ := hS.nm [34, 33, 32, 9, 8, 7, 6, 5, 4, 0] [101, 51, 50, 0] rfl rfl
   try dsimp only at hS
   obtain ⟨hi, hq⟩ := hC
   have hail : ai.length ≤ j := by rw [hq]; exact arcsI_len _ _ _ _
   refine wp_seq ?_
   refine region_q hS
     (cF rfl (o_lss .t .t) r2 trivial
     Chain.nil)
     hB ?_
   clear hS; intro a w F hS
   obtain ⟨F, hS⟩ := hS.nm [35, 34, 33, 32, 9, 8, 7, 6, 5, 4, 0] [101, 51, 50, 0] rfl rfl
   try dsimp only [rArc, rInt, rPair, rRow, rPart] at hS
   refine then_n (wp_seq ?_)
   refine cond_b hS rfl (fun hc2 => ?_) (fun hc2 => ?_)
   ·skip
    have hil : j < (arcsQ q).length := by simp at hc2; omega
    have hat := arcs_there hinn (nth_mem hil)
    refine wp_skip (then_n (wp_seq (wp_block (wp_seq ?_))))
    refine region_q hS
      (cF rfl (o_indexAddr_sl (sz := 4) (.mk Tryd.underlying60 (by kernel_rfl)) (by intro x; rfl) .t .t (by omega) (by omega)) r2 trivial
      (cF rfl (oR true 4 .t) r1 trivial
      (cF rfl (oH [.int .i64 0, .int .i64 0, .int .i64 0, .int .i64 0] 102) trivial trivial
      (cF rfl (oA 4 102 .same .t) r2 r1
      Chain.nil))))
      hB ?_
    clear hS; intro a w F hS
    replace hS := hS.sub
    obtain ⟨F, hS⟩ := hS.nm [34, 33, 32, 11, 9, 8, 7, 6, 5, 4, 0] [102, 101, 51, 50, 0] rfl rfl
    try dsimp only [RS.sub, SF.sub, CF.sub, csub, Anc.sub, List.map, stCells, xL, xM, Nat.reduceAdd, xD, xE, xT, xU, xC, xN, zCF, ldSF, rArc, rInt, rPair, rRow, rPart] at hS
    generalize Act.tau a 11 = v11 at hS
    try simp only [Int.toNat_natCast] at hS
    refine then_n (wp_seq ?_)
    refine region_q hS
      (cF rfl (oM .t) r1 trivial
      (cF rfl (oF 0 102 .is) r1 r1
      (cF rfl (oL false 1 102 .adr) r1 r1
      (cF rfl (o_indexAddr_sl (sz := 1) (.mk Tryd.underlying30 (by kernel_rfl)) (by intro x; rfl) .t .t (by exact hat.1.1) (by rw [labsQ_len]; exact hat.1.2)) r2 trivial
      (cF rfl (oR false 1 .t) r1 trivial
      (cF rfl (oM .t) r1 trivial
      (cF rfl (o_eql .t .t) r2 trivial
      (cF rfl (oM .t) r1 trivial
      (Chain.cons (Cert.cond rfl rfl (fun h => o_move .t (by rfl))) r2 trivial
      (Chain.cons (Cert.cond rfl rfl (fun h => o_fieldAddr (off := 1) 102 .is (by kernel_rfl) (by rfl))) r2 r1
      (Chain.cons (Cert.cond rfl rfl (fun h => o_load (ag := false) (sz := 1) 102 (.w h .adr) (by kernel_rfl) (by kernel_rfl) (by kernel_rfl) (by rfl))) r2 r1
      (Chain.cons (Cert.cond rfl rfl (fun h => o_indexAddr_sl (sz := 1) (.mk Tryd.underlying30 (by kernel_rfl)) (by intro x; rfl) (.w h) (.w h) (by exact hat.2.1) (by rw [labsQ_len]; exact hat.2.2))) r3 trivial
      (Chain.cons (Cert.cond rfl rfl (fun h => o_load_ref (ag := false) (sz := 1) (.w h) (by kernel_rfl) (by kernel_rfl) (by kernel_rfl))) r2 trivial
      (Chain.cons (Cert.cond rfl rfl (fun h => o_move .t (by rfl))) r2 trivial
      (Chain.cons (Cert.cond rfl rfl (fun h => o_eql (.w h) (.w h))) r3 trivial
      (cF rfl (o_and2 .t .t) r2 trivial
      Chain.nil))))))))))))))))
      hB ?_
    clear hS; intro a w F hS
    obtain ⟨F, hS⟩ := hS.nm [53, 34, 33, 32, 11, 9, 8, 7, 6, 5, 4, 0] [102, 101, 51, 50, 0] rfl rfl
    try dsimp only [List.map, xD, xE, xT, xU, ldSF, rArc, rInt, rPair, rRow, rPart] at hS
    try simp only [Int.toNat_natCast] at hS
    refine then_n ?_
    refine cond_b hS rfl (fun hc3 => ?_) (fun hc3 => ?_)
    ·skip
     have hBq : inArc n q (i : Int) (Go.Gm.nth (arcsQ q) j) = true := by
       have h9 : Go.Gm.nth (labsQ n q) (Go.Gm.nth (arcsQ q) j).src.toNat = (i : Int) ∧ Go.Gm.nth (labsQ n q) (Go.Gm.nth (arcsQ q) j).dst.toNat = (i : Int) := by simpa using hc3
       rw [labsQ_at hat.1, labsQ_at hat.2] at h9
       unfold inArc; simpa using h9
     refine region_q hS
       (cF rfl (oF 1 101 .is) r1 r1
       (cF rfl (oL false 1 101 .adr) r1 r1
       (cF rfl (oL true 4 102 .is) r1 r1
       (cF rfl (o_buildSliceE (sz := 4) (zs := [.int .i64 0, .int .i64 0, .int .i64 0, .int .i64 0]) (r := [(0, .tmp 56)]) (l := [_, _, _, _]) Tryd.underlying60 (by kernel_rfl) (by kernel_rfl) (by kernel_rfl) (by kernel_rfl) rfl rfl (.agg rfl .t (by kernel_rfl) (by kernel_rfl) .nil) rfl) r1 trivial
       (cF rfl (o_append (sz := 4) (bs := 32) 51 (.mk' Tryd.underlying60 (by kernel_rfl) (by kernel_rfl)) (by intro x; rfl) .is (.arr (l' := [(Go.Gm.nth (arcsQ q) j)]) .t) (by simp only [List.length_append, List.length_cons, List.length_nil]; omega) (by decide)) ⟨rfl, rfl, trivial⟩ ⟨rfl, trivial⟩
       (cF rfl (oF 1 101 .is) r1 r1
       (cF rfl (o_storeS 101 .adr (by kernel_rfl) (by kernel_rfl)) r2 r1
       Chain.nil)))))))
       hB ?_
     clear hS; intro a w F hS
     replace hS := hS.sub
     obtain ⟨F, hS⟩ := hS.nm [34, 33, 32, 9, 8, 7, 6, 5, 4, 0] [101, 51, 50, 0] rfl rfl
     try dsimp only [RS.sub, SF.sub, CF.sub, csub, Anc.sub, List.map, stCells, xL, xM, Nat.reduceAdd, xD, xE, xT, xU, xC, xN, zCF, ldSF, rArc, rInt, rPair, rRow, rPart] at hS
     generalize Act.tau a 58 = v58 at hS
     refine block_n (then_n ?_)
     refine region_q hS
       (cF rfl (o_add .t (.ci (by kernel_rfl))) r1 trivial
       (cF rfl (oM .t) r1 trivial
       Chain.nil))
       hB ?_
     clear hS; intro a w F hS
     obtain ⟨F, hS⟩ := hS.nm [34, 33, 32, 9, 8, 7, 6, 5, 4, 0] [101, 51, 50, 0] rfl rfl
     try dsimp only [rArc, rInt, rPair, rRow, rPart] at hS
     refine then_n ?_
     replace hS := hS.ent (i := 34) (s' := .pv (.int .i64 ((j + 1 : Nat) : Int))) rfl (.int (wrap_succ (by omega)))
     obtain ⟨F, hS⟩ := hS.nm [33, 32, 9, 8, 7, 6, 5, 4, 0, 34] [50, 0, 51, 101] rfl rfl
     exact ⟨((j + 1), (v58), (ai ++ [Go.Gm.nth (arcsQ q) j])), F, ⟨by omega, (by rw [arcsI_next hil, ← hq, if_pos hBq])⟩, hS, by omega⟩
    have hBq : ¬ inArc n q (i : Int) (Go.Gm.nth (arcsQ q) j) = true := by
      have h9 : ¬ (Go.Gm.nth (labsQ n q) (Go.Gm.nth (arcsQ q) j).src.toNat = (i : Int) ∧ Go.Gm.nth (labsQ n q) (Go.Gm.nth (arcsQ q) j).dst.toNat = (i : Int)) := by simpa using hc3
      rw [labsQ_at hat.1, labsQ_at hat.2] at h9
      unfold inArc; simpa using h9
    refine wp_skip (block_n (then_n ?_))
    refine region_q hS
      (cF rfl (o_add .t (.ci (by kernel_rfl))) r1 trivial
      (cF rfl (oM .t) r1 trivial
      Chain.nil))
      hB ?_
    clear hS; intro a w F hS
    obtain ⟨F, hS⟩ := hS.nm [34, 33, 32, 9, 8, 7, 6, 5, 4, 0] [101, 51, 50, 0] rfl rfl
    try dsimp only [rArc, rInt, rPair, rRow, rPart] at hS
    refine then_n ?_
    replace hS := hS.ent (i := 34) (s' := .pv (.int .i64 ((j + 1 : Nat) : Int))) rfl (.int (wrap_succ (by omega)))
    obtain ⟨F, hS⟩ := hS.nm [33, 32, 9, 8, 7, 6, 5, 4, 0, 34] [50, 0, 51, 101] rfl rfl
    exact ⟨((j + 1), (u), (ai)), F, ⟨by omega, (by rw [arcsI_next hil, ← hq, if_neg hBq, List.append_nil])⟩, hS, by omega⟩
   have hil : j = (arcsQ q).length := by simp at hc2; omega
   have hai9 : ai = arcsIn n q (i : Int) := by rw [hq, hil]; exact arcsI_all n q _
   rw [hai9] at hS
   obtain ⟨F, hS⟩ := hS.giveCell 51 101 1 rfl rfl rfl rfl rfl
   try dsimp only [List.set] at hS
   obtain ⟨F, hS⟩ := hS.nm [35, 34, 33, 32, 9, 8, 7, 6, 5, 4, 0] [101, 50, 0] rfl rfl
   refine wp_exit (then_x (then_x (block_x (then_n ?_))))
   refine region_q hS
     (cF rfl (oM .t) r1 trivial
     (cF rfl (oL true 2 101 .is) r1 r1
     (cF rfl (o_buildSliceE (sz := 2) (zs := [.slice none 0 0, .slice none 0 0]) (r := [(0, .tmp 62)]) (l := [_, _]) Tryd.underlying53 (by kernel_rfl) (by kernel_rfl) (by kernel_rfl) (by kernel_rfl) rfl rfl (.agg rfl .t (by kernel_rfl) (by kernel_rfl) .nil) rfl) r1 trivial
     (cF rfl (o_append (sz := 2) (bs := 48) 50 (.mk' Tryd.underlying53 (by kernel_rfl) (by kernel_rfl)) (by intro x; rfl) .is (.arr (l' := [(⟨(compQ n q (i : Int)), arcsIn n q (i : Int)⟩ : PartD)]) .t) (by simp only [List.length_append, List.length_cons, List.length_nil]; omega) (by decide)) ⟨rfl, rfl, trivial⟩ ⟨rfl, trivial⟩
     (cF rfl (oN .t) r1 trivial
     Chain.nil)))))
     hB ?_
   clear hS; intro a w F hS
   replace hS := hS.sub
   obtain ⟨F, hS⟩ := hS.nm [8, 7, 6, 5, 4, 0] [50, 0] rfl rfl
   try dsimp only [RS.sub, SF.sub, CF.sub, csub, Anc.sub, List.map, stCells, xL, xM, Nat.reduceAdd, xD, xE, xT, xU, xC, xN, zCF, ldSF, rArc, rInt, rPair, rRow, rPart] at hS
   generalize Act.tau a 64 = v64 at hS
   refine block_n (then_n ?_)
   refine region_q hS
     (cF rfl (oM .t) r1 trivial
     (cF rfl (o_add .t (.ci (by kernel_rfl))) r1 trivial
     (cF rfl (oN .t) r1 trivial
     Chain.nil)))
     hB ?_
   clear hS; intro a w F hS
   obtain ⟨F, hS⟩ := hS.nm [8, 7, 6, 5, 4, 0] [50, 0] rfl rfl
   try dsimp only [rArc, rInt, rPair, rRow, rPart] at hS
   refine then_n ?_
   replace hS := hS.ent (i := 8) (s' := .pv (.int .i64 ((i + 1 : Nat) : Int))) rfl (.int (wrap_succ (by omega)))
   obtain ⟨F, hS⟩ := hS.nm [6, 5, 4, 0, 7, 8] [0, 50] rfl rfl
   exact ⟨((i + 1), _, _), F, ⟨by omega, by rw [partsP_next, ← hqo]; simp only [hlb, if_true, if_false, List.append_nil]; rfl⟩, hS, (by show _ - (i + 1) < _ - i; omega)⟩
  have hi9 : i = n := by simp at hc0; omega
  refine wp_exit (then_x (then_x (block_x (then_n (wp_seq ?_)))))
  refine region_q hS
    (cF rfl (oM .t) r1 trivial
    (cF rfl (oN .t) r1 trivial
    Chain.nil))
    hB ?_
  clear hS; intro a w F hS
  obtain ⟨F, hS⟩ := hS.nm [4] [50, 0] rfl rfl
  try dsimp only [rArc, rInt, rPair, rRow, rPart] at hS
  refine then_n (wp_ret ?_)
  obtain ⟨F, hS⟩ := hS.give 50 4 rfl rfl
  refine ret_P hfr hS rfl (.tmp rfl .nil) (.one (.sl (by rw [hq, hi9])))

theorem same22_c (x y : List ArcD) : FnP Tryd.prog 73 [.sl rArc x, .sl rArc y] (.bool (decide (x = y))) := by
  refine FnP.mk Tryd.func73 rfl Tryd.ntmps73 rfl ?_
  intro B a w F hB hfr hS
  have hxl := Sat.lenSl hS (i := 0) rfl
  refine wp_seq ?_
  refine region_q hS
    (cF rfl (oN .cb) trivial trivial
    Chain.nil)
    hB ?_
  clear hS; intro a w F hS
  obtain ⟨F, hS⟩ := hS.nm [4, 1, 0] [0] rfl rfl
  refine then_n (wp_seq (wp_seq ?_))
  refine region_q hS
    (cF rfl (oM .t) r1 trivial
    (cF rfl (o_len_sl Tryd.underlying60 .t) r1 trivial
    (cF rfl (oM .t) r1 trivial
    (cF rfl (o_len_sl Tryd.underlying60 .t) r1 trivial
    (cF rfl (o_neq .t .t) r2 trivial
    Chain.nil)))))
    hB ?_
  clear hS; intro a w F hS
  obtain ⟨F, hS⟩ := hS.nm [10, 4, 1, 0] [0] rfl rfl
  refine then_n ?_
  refine cond_b hS rfl (fun hc0 => ?_) (fun hc0 => ?_)
  ·skip
   have hg : false = decide (x = y) := by
     rw [eq_comm, decide_eq_false_iff_not]
     intro h
     subst h
     simp at hc0
   refine wp_seq ?_
   refine region_q hS
     (cF rfl (oN .cb) trivial trivial
     Chain.nil)
     hB ?_
   clear hS; intro a w F hS
   obtain ⟨F, hS⟩ := hS.nm [4, 1, 0] [0] rfl rfl
   refine then_n (wp_ret (then_r ?_))
   refine ret_P hfr hS rfl (.tmp rfl .nil) (.one (.bool hg))
  have hl : x.length = y.length := by simp at hc0; omega
  refine wp_skip (then_n (wp_seq (wp_seq ?_)))
  refine region_q hS
    (cF rfl (oM .t) r1 trivial
    (cF rfl (o_len_sl Tryd.underlying60 .t) r1 trivial
    (cF rfl (oM (.ci (by kernel_rfl))) trivial trivial
    Chain.nil)))
    hB ?_
  clear hS; intro a w F hS
  obtain ⟨F, hS⟩ := hS.nm [13, 12, 4, 1, 0] [0] rfl rfl
  refine then_n (wp_block ?_)
  obtain ⟨F, hS⟩ := hS.nm [13, 12, 1, 0] [0] rfl rfl
  refine loop_inv (σ := Nat) (fun s => (⟨[(0, .pv (.sl rArc x)), (1, .pv (.sl rArc y)), (12, .pv (.int .i64 x.length)), (13, .pv (.int .i64 s))], [(0, frame B)]⟩ : En)) (fun s => s ≤ x.length ∧ ∀ j, j < s → Go.Gm.nth x j = Go.Gm.nth y j) (fun s => x.length - s) 0 hS ⟨Nat.zero_le _, fun j hj => absurd hj (Nat.not_lt_zero j)⟩ ?_
  clear hS; intro i a w F hC hS
  try dsimp only at hC
  try dsimp only at hS
  obtain ⟨hi, hq⟩ := hC
  refine wp_seq ?_
  refine region_q hS
    (cF rfl (o_lss .t .t) r2 trivial
    Chain.nil)
    hB ?_
  clear hS; intro a w F hS
  obtain ⟨F, hS⟩ := hS.nm [14, 13, 12, 1, 0] [0] rfl rfl
  refine then_n (wp_seq ?_)
  refine cond_b hS rfl (fun hc1 => ?_) (fun hc1 => ?_)
  ·skip
   have hil : i < x.length := by simp at hc1; omega
   refine wp_skip (then_n (wp_seq (wp_block (wp_seq ?_))))
   refine region_q hS
     (cF rfl (oM .t) r1 trivial
     (cF rfl (oN .t) r1 trivial
     Chain.nil))
     hB ?_
   clear hS; intro a w F hS
   obtain ⟨F, hS⟩ := hS.nm [15, 14, 13, 12, 5, 1, 0] [0] rfl rfl
   refine then_n (wp_seq ?_)
   refine region_any (by kernel_rfl) hS (by kernel_rfl)
     (cF rfl (oM .t) r1 trivial
     (cF rfl (oM .t) r1 trivial
     (cF rfl (o_indexAddr_sl (sz := 4) (.mk Tryd.underlying60 (by kernel_rfl)) (by intro x; rfl) .t .t (by omega) (by omega)) r2 trivial
     (cF rfl (oR true 4 .t) r1 trivial
     (cF rfl (oM .t) r1 trivial
     (cF rfl (oM .t) r1 trivial
     (cF rfl (o_indexAddr_sl (sz := 4) (.mk Tryd.underlying60 (by kernel_rfl)) (by intro x; rfl) .t .t (by omega) (by omega)) r2 trivial
     (cF rfl (oR true 4 .t) r1 trivial
     (cF rfl (o_neqS (ks := [true, true, true, true]) (by kernel_rfl) .t .t (.int (.int (.int (.int .nil))))) r2 trivial
     Chain.nil)))))))))
     (by kernel_rfl) (by rw [hB]; kernel_rfl) ?_
   clear hS; intro a w F hS
   obtain ⟨F, hS⟩ := hS.nm [24, 23, 22, 21, 20, 19, 18, 17, 16, 15, 14, 13, 12, 5, 1, 0] [0] rfl rfl
   try dsimp only [List.map, xD, xE, xT, xU, ldSF] at hS
   refine then_n ?_
   refine cond_b hS rfl (fun hc2 => ?_) (fun hc2 => ?_)
   ·skip
    have hg : false = decide (x = y) := by
      rw [eq_comm, decide_eq_false_iff_not]
      intro h
      subst h
      simp at hc2
    refine wp_seq ?_
    refine region_q hS
      (cF rfl (oN .cb) trivial trivial
      Chain.nil)
      hB ?_
    clear hS; intro a w F hS
    obtain ⟨F, hS⟩ := hS.nm [24, 23, 22, 21, 20, 19, 18, 17, 16, 15, 14, 13, 12, 5, 4, 1, 0] [0] rfl rfl
    refine then_n (wp_ret (block_r (then_r (then_r (block_r (then_r ?_))))))
    refine ret_P hfr hS rfl (.tmp rfl .nil) (.one (.bool hg))
   rw [Int.toNat_natCast] at hc2
   have hqi : Go.Gm.nth x i = Go.Gm.nth y i := by simp only [eqAD] at hc2; simpa using hc2
   refine wp_skip (block_n (then_n ?_))
   refine region_q hS
     (cF rfl (o_add .t (.ci (by kernel_rfl))) r1 trivial
     (cF rfl (oM .t) r1 trivial
     Chain.nil))
     hB ?_
   clear hS; intro a w F hS
   obtain ⟨F, hS⟩ := hS.nm [25, 24, 23, 22, 21, 20, 19, 18, 17, 16, 15, 14, 13, 12, 5, 1, 0] [0] rfl rfl
   refine then_n ?_
   replace hS := hS.ent (i := 13) (s' := .pv (.int .i64 ((i + 1 : Nat) : Int))) rfl (.int (wrap_succ (by omega)))
   obtain ⟨F, hS⟩ := hS.nm [13, 12, 1, 0] [0] rfl rfl
   exact ⟨i + 1, F, ⟨by omega, fun j hj => by rcases Nat.lt_or_eq_of_le (Nat.le_of_lt_succ hj) with h | h; exact hq j h; rw [h]; exact hqi⟩, hS, by omega⟩
  have hg : true = decide (x = y) := by
    rw [eq_comm, decide_eq_true_eq]
    exact list_same hl fun j hj => hq j (by simp at hc1; omega)
  refine wp_exit (then_x (then_x (block_x (then_n (wp_seq ?_)))))
  refine region_q hS
    (cF rfl (oN .cb) trivial trivial
    Chain.nil)
    hB ?_
  clear hS; intro a w F hS
  obtain ⟨F, hS⟩ := hS.nm [4] [0] rfl rfl
  refine then_n (wp_ret ?_)
  refine ret_P hfr hS rfl (.tmp rfl .nil) (.one (.bool hg))

theorem same25_c (d e : PartD) : FnP Tryd.prog 59 [.agg (rPart d), .agg (rPart e)] (.bool (decide (d = e))) := by
  refine FnP.mk Tryd.func59 rfl Tryd.ntmps59 rfl ?_
  intro B a w F hB hfr hS
  refine wp_seq ?_
  refine region_q hS
    (cF rfl (oX 101 (.conv .t .agg)) r1 trivial
    (cF rfl (oX 102 (.conv .t .agg)) r1 trivial
    (cF rfl (oN .cb) trivial trivial
    Chain.nil)))
    hB ?_
  clear hS; intro a w F hS
  replace hS := hS.sub
  obtain ⟨F, hS⟩ := hS.nm [4, 3, 2] [102, 101, 0] rfl rfl
  try dsimp only [RS.sub, SF.sub, CF.sub, csub, Anc.sub, List.map, zCF, rArc, rInt, rPair, rRow, rPart] at hS
  generalize Act.tau a 2 = v2 at hS
  generalize Act.tau a 3 = v3 at hS
  refine then_n (wp_seq ?_)
  refine region_q hS
    (cF rfl (oF 0 101 .is) r1 r1
    (cF rfl (oL false 1 101 .adr) r1 r1
    (cF rfl (oF 0 102 .is) r1 r1
    (cF rfl (oL false 1 102 .adr) r1 r1
    (cF rfl (oP (sameInts_c d.nodes e.nodes) Tryd.func18 (Args.two .t .t)) r2 trivial
    (cF rfl (oM .t) r1 trivial
    (Chain.cons (Cert.cond rfl rfl (fun h => o_fieldAddr (off := 1) 101 .is (by kernel_rfl) (by rfl))) r2 r1
    (Chain.cons (Cert.cond rfl rfl (fun h => o_load (ag := false) (sz := 1) 101 (.w h .adr) (by kernel_rfl) (by kernel_rfl) (by kernel_rfl) (by rfl))) r2 r1
    (Chain.cons (Cert.cond rfl rfl (fun h => o_fieldAddr (off := 1) 102 .is (by kernel_rfl) (by rfl))) r2 r1
    (Chain.cons (Cert.cond rfl rfl (fun h => o_load (ag := false) (sz := 1) 102 (.w h .adr) (by kernel_rfl) (by kernel_rfl) (by kernel_rfl) (by rfl))) r2 r1
    (Chain.cons (Cert.cond rfl rfl (fun h => o_callP (same22_c d.arcs e.arcs) Tryd.func73 rfl (by kernel_rfl) (Args.two (.w h) (.w h)))) r3 trivial
    (cF rfl (o_and2 .t .t) r2 trivial
    (cF rfl (oN .t) r1 trivial
    Chain.nil)))))))))))))
    hB ?_
  clear hS; intro a w F hS
  obtain ⟨F, hS⟩ := hS.nm [4] [0] rfl rfl
  try dsimp only [List.map, xD, xE, xT, xU, ldSF, rArc, rInt, rPair, rRow, rPart] at hS
  refine then_n (wp_ret ?_)
  refine ret_P hfr hS rfl (.tmp rfl .nil) (.one (.bool (by cases d; cases e; simp)))

theorem stale25_c (was is_ : List PartD) (hw : was.length ≤ 900000) (hi : is_.length ≤ 900000) (hne : ∀ p ∈ is_, p.nodes ≠ []) : FnP Tryd.prog 31 [.sl rPart was, .sl rPart is_] (.sl rInt (staleD was is_)) := by
  refine FnP.mk Tryd.func31 rfl Tryd.ntmps31 rfl ?_
  intro B a w F hB hfr hS
  refine wp_seq ?_
  refine region_q hS
    (cF rfl (oN (.c rfl)) trivial trivial
    Chain.nil)
    hB ?_
  clear hS; intro a w F hS
  obtain ⟨F, hS⟩ := hS.nm [4, 1, 0] [0] rfl rfl
  try dsimp only [rArc, rInt, rPair, rRow, rPart] at hS
  refine then_n (wp_seq ?_)
  refine region_q hS
    (cF rfl (oN (.c rfl)) trivial trivial
    Chain.nil)
    hB ?_
  clear hS; intro a w F hS
  obtain ⟨F, hS⟩ := hS.nm [5, 4, 1, 0] [0] rfl rfl
  try dsimp only [rArc, rInt, rPair, rRow, rPart] at hS
  refine then_n (wp_seq (wp_seq ?_))
  refine region_q hS
    (cF rfl (oM .t) r1 trivial
    (cF rfl (o_len_sl Tryd.underlying53 .t) r1 trivial
    (cF rfl (oM (.ci (by kernel_rfl))) trivial trivial
    Chain.nil)))
    hB ?_
  clear hS; intro a w F hS
  obtain ⟨F, hS⟩ := hS.nm [13, 12, 11, 5, 4, 0] [0] rfl rfl
  try dsimp only [rArc, rInt, rPair, rRow, rPart] at hS
  refine then_n (wp_block ?_)
  replace hS := hS.fresh 50 rfl
  replace hS := hS.turn 50 rfl (nilRow (T := 3) (sz := 1) (R := rInt))
  refine loop_keep (σ := (Nat) × (Value) × (List Int)) [0, 4, 11, 12] [0] (fun s => [(13, .pv (.int .i64 (s.1 : Int))), (5, .pv (.is s.2.1))]) (fun s => [(50, .ob (.val s.2.1) (rowH 3 1 rInt s.2.2))]) (fun s => s.1 ≤ is_.length ∧ (s.2.2 = staleP was is_ s.1)) (fun s => is_.length - s.1) ((0), (.slice none 0 0), ([])) hS ⟨rfl, rfl, rfl, rfl, rfl, rfl, trivial⟩ ⟨rfl, rfl, trivial⟩ ⟨Nat.zero_le _, rfl⟩ ?_
  clear hS; intro s a w F hC hS
  obtain ⟨i, v, out⟩ := s
  try dsimp only at hC
  obtain ⟨F, hS⟩ := hS.nm [13, 12, 11, 5, 4, 0] [50, 0] rfl rfl
  try dsimp only at hS
  obtain ⟨hi, hq⟩ := hC
  have hol : out.length ≤ i := by rw [hq]; exact staleP_len _ _ _
  refine wp_seq ?_
  refine region_q hS
    (cF rfl (o_lss .t .t) r2 trivial
    Chain.nil)
    hB ?_
  clear hS; intro a w F hS
  obtain ⟨F, hS⟩ := hS.nm [14, 13, 12, 11, 5, 4, 0] [50, 0] rfl rfl
  try dsimp only [rArc, rInt, rPair, rRow, rPart] at hS
  refine then_n (wp_seq ?_)
  refine cond_b hS rfl (fun hc0 => ?_) (fun hc0 => ?_)
  ·skip
   have hil : i < is_.length := by simp at hc0; omega
   have hio := hil
   have hqo := hq
   refine wp_skip (then_n (wp_seq (wp_block (wp_seq ?_))))
   refine region_q hS
     (cF rfl (o_indexAddr_sl (sz := 2) (.mk Tryd.underlying53 (by kernel_rfl)) (by intro x; rfl) .t .t (by omega) (by omega)) r2 trivial
     (cF rfl (oR true 2 .t) r1 trivial
     (cF rfl (oH [.slice none 0 0, .slice none 0 0] 101) trivial trivial
     (cF rfl (oA 2 101 .same .t) r2 r1
     Chain.nil))))
     hB ?_
   clear hS; intro a w F hS
   replace hS := hS.sub
   obtain ⟨F, hS⟩ := hS.nm [13, 12, 11, 7, 5, 4, 0] [101, 50, 0] rfl rfl
   try dsimp only [RS.sub, SF.sub, CF.sub, csub, Anc.sub, List.map, stCells, xL, xM, Nat.reduceAdd, xD, xE, xT, xU, xC, xN, zCF, ldSF, rArc, rInt, rPair, rRow, rPart] at hS
   generalize Act.tau a 7 = v7 at hS
   try simp only [Int.toNat_natCast] at hS
   refine then_n (wp_seq ?_)
   refine region_q hS
     (cF rfl (oN .cb) trivial trivial
     Chain.nil)
     hB ?_
   clear hS; intro a w F hS
   obtain ⟨F, hS⟩ := hS.nm [13, 12, 11, 8, 7, 5, 4, 0] [101, 50, 0] rfl rfl
   try dsimp only [rArc, rInt, rPair, rRow, rPart] at hS
   refine then_n (wp_seq (wp_seq ?_))
   refine region_q hS
     (cF rfl (oM .t) r1 trivial
     (cF rfl (o_len_sl Tryd.underlying53 .t) r1 trivial
     (cF rfl (oM (.ci (by kernel_rfl))) trivial trivial
     Chain.nil)))
     hB ?_
   clear hS; intro a w F hS
   obtain ⟨F, hS⟩ := hS.nm [19, 18, 17, 13, 12, 11, 8, 7, 5, 4, 0] [101, 50, 0] rfl rfl
   try dsimp only [rArc, rInt, rPair, rRow, rPart] at hS
   refine then_n (wp_block ?_)
   replace hS := hS.ent (i := 8) (s' := .pv (.bool ((was.take 0).any fun w => decide ((Go.Gm.nth is_ i) = w)))) rfl (.bool (by simp))
   refine loop_keep (σ := (Nat)) [0, 4, 5, 7, 11, 12, 13, 17, 18] [0, 50, 101] (fun s => [(19, .pv (.int .i64 (s : Int))), (8, .pv (.bool ((was.take s).any fun w => decide ((Go.Gm.nth is_ i) = w))))]) (fun s => []) (fun s => s ≤ was.length ∧ (True)) (fun s => was.length - s) (0) hS ⟨rfl, rfl, rfl, rfl, rfl, rfl, rfl, rfl, rfl, rfl, rfl, trivial⟩ ⟨rfl, rfl, rfl, trivial⟩ ⟨Nat.zero_le _, trivial⟩ ?_
   clear hS; intro j a w F hC hS
   try dsimp only at hC
   obtain ⟨F, hS⟩ := hS.nm [19, 18, 17, 13, 12, 11, 8, 7, 5, 4, 0] [101, 50, 0] rfl rfl
   try dsimp only at hS
   obtain ⟨hi, hq⟩ := hC
   refine wp_seq ?_
   refine region_q hS
     (cF rfl (o_lss .t .t) r2 trivial
     Chain.nil)
     hB ?_
   clear hS; intro a w F hS
   obtain ⟨F, hS⟩ := hS.nm [20, 19, 18, 17, 13, 12, 11, 8, 7, 5, 4, 0] [101, 50, 0] rfl rfl
   try dsimp only [rArc, rInt, rPair, rRow, rPart] at hS
   refine then_n (wp_seq ?_)
   refine cond_b hS rfl (fun hc1 => ?_) (fun hc1 => ?_)
   ·skip
    have hil : j < was.length := by simp at hc1; omega
    refine wp_skip (then_n (wp_seq (wp_block (wp_seq ?_))))
    refine region_q hS
      (cF rfl (o_indexAddr_sl (sz := 2) (.mk Tryd.underlying53 (by kernel_rfl)) (by intro x; rfl) .t .t (by omega) (by omega)) r2 trivial
      (cF rfl (oR true 2 .t) r1 trivial
      (cF rfl (oH [.slice none 0 0, .slice none 0 0] 102) trivial trivial
      (cF rfl (oA 2 102 .same .t) r2 r1
      Chain.nil))))
      hB ?_
    clear hS; intro a w F hS
    replace hS := hS.sub
    obtain ⟨F, hS⟩ := hS.nm [19, 18, 17, 13, 12, 11, 10, 8, 7, 5, 4, 0] [102, 101, 50, 0] rfl rfl
    try dsimp only [RS.sub, SF.sub, CF.sub, csub, Anc.sub, List.map, stCells, xL, xM, Nat.reduceAdd, xD, xE, xT, xU, xC, xN, zCF, ldSF, rArc, rInt, rPair, rRow, rPart] at hS
    generalize Act.tau a 10 = v10 at hS
    try simp only [Int.toNat_natCast] at hS
    refine then_n ?_
    refine region_q hS
      (cF rfl (oM .t) r1 trivial
      (cF rfl (oM .t) r1 trivial
      (Chain.cons (Cert.cond rfl rfl (fun h => o_load (ag := true) (sz := 2) 101 .is (by kernel_rfl) (by kernel_rfl) (by kernel_rfl) (by rfl))) r2 r1
      (Chain.cons (Cert.cond rfl rfl (fun h => o_load (ag := true) (sz := 2) 102 .is (by kernel_rfl) (by kernel_rfl) (by kernel_rfl) (by rfl))) r2 r1
      (Chain.cons (Cert.cond rfl rfl (fun h => o_callP (same25_c (Go.Gm.nth is_ i) (Go.Gm.nth was j)) Tryd.func59 rfl (by kernel_rfl) (Args.two (.pagg (.w h)) (.pagg (.w h))))) r3 trivial
      (cF rfl (o_or2 .t .t) r2 trivial
      (cF rfl (oN .t) r1 trivial
      Chain.nil)))))))
      hB ?_
    clear hS; intro a w F hS
    obtain ⟨F, hS⟩ := hS.nm [19, 18, 17, 13, 12, 11, 8, 7, 5, 4, 0] [101, 50, 0] rfl rfl
    try dsimp only [List.map, xD, xE, xT, xU, ldSF, rArc, rInt, rPair, rRow, rPart] at hS
    refine block_n (then_n ?_)
    refine region_q hS
      (cF rfl (o_add .t (.ci (by kernel_rfl))) r1 trivial
      (cF rfl (oM .t) r1 trivial
      Chain.nil))
      hB ?_
    clear hS; intro a w F hS
    obtain ⟨F, hS⟩ := hS.nm [19, 18, 17, 13, 12, 11, 8, 7, 5, 4, 0] [101, 50, 0] rfl rfl
    try dsimp only [rArc, rInt, rPair, rRow, rPart] at hS
    refine then_n ?_
    replace hS := hS.ent (i := 19) (s' := .pv (.int .i64 ((j + 1 : Nat) : Int))) rfl (.int (wrap_succ (by omega)))
    replace hS := hS.ent (i := 8) (s' := .pv (.bool ((was.take (j + 1)).any fun w => decide ((Go.Gm.nth is_ i) = w)))) rfl (.bool (by rw [take_nth hil, List.any_append]; simp))
    obtain ⟨F, hS⟩ := hS.nm [18, 17, 13, 12, 11, 7, 5, 4, 0, 8, 19] [101, 50, 0] rfl rfl
    exact ⟨(j + 1), F, ⟨by omega, trivial⟩, hS, by omega⟩
   have hil : j = was.length := by simp at hc1; omega
   have hjl := hil
   refine wp_exit (then_x (then_x (block_x (then_n (wp_seq ?_)))))
   refine region_q hS
     (cF rfl (oM .t) r1 trivial
     (cF rfl (o_not .t) r1 trivial
     Chain.nil))
     hB ?_
   clear hS; intro a w F hS
   obtain ⟨F, hS⟩ := hS.nm [31, 13, 12, 11, 7, 5, 4, 0] [101, 50, 0] rfl rfl
   try dsimp only [rArc, rInt, rPair, rRow, rPart] at hS
   refine then_n ?_
   refine cond_b hS rfl (fun hc2 => ?_) (fun hc2 => ?_)
   ·skip
    have hBq : was.any (fun w => decide ((Go.Gm.nth is_ i) = w)) = false := by rw [hjl, List.take_length] at hc2; simpa using hc2
    refine region_q hS
      (cF rfl (oM .t) r1 trivial
      (cF rfl (oF 0 101 .is) r1 r1
      (cF rfl (oL false 1 101 .adr) r1 r1
      (cF rfl (o_indexAddr_sl (sz := 1) (.mk Tryd.underlying30 (by kernel_rfl)) (by intro x; rfl) .t (.ci (by kernel_rfl)) (by decide) (by have := List.length_pos_iff.2 (hne _ (nth_mem hio)); omega)) r1 trivial
      (cF rfl (oR false 1 .t) r1 trivial
      (cF rfl (o_buildSliceE (sz := 1) (zs := [.int .i64 0]) (r := [(0, .tmp 36)]) (l := [_]) Tryd.underlying30 (by kernel_rfl) (by kernel_rfl) (by kernel_rfl) (by kernel_rfl) rfl rfl (.one rfl .t one_int (by kernel_rfl) .nil) rfl) r1 trivial
      (cF rfl (o_append (sz := 1) (bs := 8) 50 (.mk' Tryd.underlying30 (by kernel_rfl) (by kernel_rfl)) (by intro x; rfl) .is (.arr (l' := [(Go.Gm.nth (Go.Gm.nth is_ i).nodes 0)]) .t) (by simp only [List.length_append, List.length_cons, List.length_nil]; omega) (by decide)) ⟨rfl, rfl, trivial⟩ ⟨rfl, trivial⟩
      (cF rfl (oN .t) r1 trivial
      Chain.nil))))))))
      hB ?_
    clear hS; intro a w F hS
    replace hS := hS.sub
    obtain ⟨F, hS⟩ := hS.nm [13, 12, 11, 5, 4, 0] [50, 0] rfl rfl
    try dsimp only [RS.sub, SF.sub, CF.sub, csub, Anc.sub, List.map, stCells, xL, xM, Nat.reduceAdd, xD, xE, xT, xU, xC, xN, zCF, ldSF, rArc, rInt, rPair, rRow, rPart] at hS
    generalize Act.tau a 38 = v38 at hS
    try simp only [Int.toNat_natCast] at hS
    refine block_n (then_n ?_)
    refine region_q hS
      (cF rfl (o_add .t (.ci (by kernel_rfl))) r1 trivial
      (cF rfl (oM .t) r1 trivial
      Chain.nil))
      hB ?_
    clear hS; intro a w F hS
    obtain ⟨F, hS⟩ := hS.nm [13, 12, 11, 5, 4, 0] [50, 0] rfl rfl
    try dsimp only [rArc, rInt, rPair, rRow, rPart] at hS
    refine then_n ?_
    replace hS := hS.ent (i := 13) (s' := .pv (.int .i64 ((i + 1 : Nat) : Int))) rfl (.int (wrap_succ (by omega)))
    obtain ⟨F, hS⟩ := hS.nm [12, 11, 4, 0, 5, 13] [0, 50] rfl rfl
    exact ⟨((i + 1), _, _), F, ⟨by omega, (by rw [staleP_next hio, ← hqo]; simp [hBq])⟩, hS, by omega⟩
   have hBq : was.any (fun w => decide ((Go.Gm.nth is_ i) = w)) = true := by rw [hjl, List.take_length] at hc2; simpa using hc2
   refine wp_skip (block_n (then_n ?_))
   refine region_q hS
     (cF rfl (o_add .t (.ci (by kernel_rfl))) r1 trivial
     (cF rfl (oM .t) r1 trivial
     Chain.nil))
     hB ?_
   clear hS; intro a w F hS
   obtain ⟨F, hS⟩ := hS.nm [13, 12, 11, 5, 4, 0] [50, 0] rfl rfl
   try dsimp only [rArc, rInt, rPair, rRow, rPart] at hS
   refine then_n ?_
   replace hS := hS.ent (i := 13) (s' := .pv (.int .i64 ((i + 1 : Nat) : Int))) rfl (.int (wrap_succ (by omega)))
   obtain ⟨F, hS⟩ := hS.nm [12, 11, 4, 0, 5, 13] [0, 50] rfl rfl
   exact ⟨((i + 1), _, _), F, ⟨by omega, (by rw [staleP_next hio, ← hqo]; simp [hBq])⟩, hS, by omega⟩
  have hil : i = is_.length := by simp at hc0; omega
  refine wp_exit (then_x (then_x (block_x (then_n (wp_seq ?_)))))
  refine region_q hS
    (cF rfl (oM .t) r1 trivial
    (cF rfl (oN .t) r1 trivial
    Chain.nil))
    hB ?_
  clear hS; intro a w F hS
  obtain ⟨F, hS⟩ := hS.nm [4] [50, 0] rfl rfl
  try dsimp only [rArc, rInt, rPair, rRow, rPart] at hS
  refine then_n (wp_ret ?_)
  obtain ⟨F, hS⟩ := hS.give 50 4 rfl rfl
  refine ret_P hfr hS rfl (.tmp rfl .nil) (.one (.sl (by rw [hq, hil]; unfold staleP staleD; rw [List.take_length])))

theorem of25_c (ps : List PartD) (u : Int) (hl : ps.length ≤ 900000) (hln : ∀ p ∈ ps, p.nodes.length ≤ 1000000) : FnP Tryd.prog 35 [.sl rPart ps, .int .i64 u] (.sl rInt (ofD ps u)) := by
  refine FnP.mk Tryd.func35 rfl Tryd.ntmps35 rfl ?_
  intro B a w F hB hfr hS
  refine wp_seq ?_
  refine region_q hS
    (cF rfl (oN (.c rfl)) trivial trivial
    Chain.nil)
    hB ?_
  clear hS; intro a w F hS
  obtain ⟨F, hS⟩ := hS.nm [4, 1, 0] [0] rfl rfl
  try dsimp only [rArc, rInt, rPair, rRow, rPart] at hS
  refine then_n (wp_seq (wp_seq ?_))
  refine region_q hS
    (cF rfl (oM .t) r1 trivial
    (cF rfl (o_len_sl Tryd.underlying53 .t) r1 trivial
    (cF rfl (oM (.ci (by kernel_rfl))) trivial trivial
    Chain.nil)))
    hB ?_
  clear hS; intro a w F hS
  obtain ⟨F, hS⟩ := hS.nm [9, 8, 7, 4, 1] [0] rfl rfl
  try dsimp only [rArc, rInt, rPair, rRow, rPart] at hS
  refine then_n (wp_block ?_)
  refine loop_keep (σ := (Nat)) [1, 4, 7, 8] [0] (fun s => [(9, .pv (.int .i64 (s : Int)))]) (fun s => []) (fun s => s ≤ ps.length ∧ (ofD (ps.drop s) u = ofD ps u)) (fun s => ps.length - s) (0) hS ⟨rfl, rfl, rfl, rfl, rfl, trivial⟩ ⟨rfl, trivial⟩ ⟨Nat.zero_le _, rfl⟩ ?_
  clear hS; intro i a w F hC hS
  try dsimp only at hC
  obtain ⟨F, hS⟩ := hS.nm [9, 8, 7, 4, 1] [0] rfl rfl
  try dsimp only at hS
  obtain ⟨hi, hq⟩ := hC
  refine wp_seq ?_
  refine region_q hS
    (cF rfl (o_lss .t .t) r2 trivial
    Chain.nil)
    hB ?_
  clear hS; intro a w F hS
  obtain ⟨F, hS⟩ := hS.nm [10, 9, 8, 7, 4, 1] [0] rfl rfl
  try dsimp only [rArc, rInt, rPair, rRow, rPart] at hS
  refine then_n (wp_seq ?_)
  refine cond_b hS rfl (fun hc0 => ?_) (fun hc0 => ?_)
  ·skip
   have hil : i < ps.length := by simp at hc0; omega
   refine wp_skip (then_n (wp_seq (wp_block (wp_seq ?_))))
   refine region_q hS
     (cF rfl (o_indexAddr_sl (sz := 2) (.mk Tryd.underlying53 (by kernel_rfl)) (by intro x; rfl) .t .t (by omega) (by omega)) r2 trivial
     (cF rfl (oR true 2 .t) r1 trivial
     (cF rfl (oH [.slice none 0 0, .slice none 0 0] 101) trivial trivial
     (cF rfl (oA 2 101 .same .t) r2 r1
     Chain.nil))))
     hB ?_
   clear hS; intro a w F hS
   replace hS := hS.sub
   obtain ⟨F, hS⟩ := hS.nm [9, 8, 7, 6, 4, 1] [101, 0] rfl rfl
   try dsimp only [RS.sub, SF.sub, CF.sub, csub, Anc.sub, List.map, stCells, xL, xM, Nat.reduceAdd, xD, xE, xT, xU, xC, xN, zCF, ldSF, rArc, rInt, rPair, rRow, rPart] at hS
   generalize Act.tau a 6 = v6 at hS
   try simp only [Int.toNat_natCast] at hS
   refine then_n (wp_seq ?_)
   refine region_q hS
     (cF rfl (oF 0 101 .is) r1 r1
     (cF rfl (oL false 1 101 .adr) r1 r1
     (cF rfl (oM .t) r1 trivial
     (cF rfl (oP (in_c (Go.Gm.nth ps i).nodes u (hln _ (nth_mem hil))) Tryd.func22 (Args.two .t .t)) r2 trivial
     Chain.nil))))
     hB ?_
   clear hS; intro a w F hS
   obtain ⟨F, hS⟩ := hS.nm [16, 9, 8, 7, 6, 4, 1] [101, 0] rfl rfl
   try dsimp only [List.map, xD, xE, xT, xU, ldSF, rArc, rInt, rPair, rRow, rPart] at hS
   refine then_n ?_
   refine cond_b hS rfl (fun hc1 => ?_) (fun hc1 => ?_)
   ·skip
    have hBq : u ∈ (Go.Gm.nth ps i).nodes := by simpa using hc1
    have hg : (Go.Gm.nth ps i).nodes = ofD ps u := by rw [← hq, ofD_drop hil, if_pos hBq]
    refine wp_seq ?_
    refine region_q hS
      (cF rfl (oF 0 101 .is) r1 r1
      (cF rfl (oL false 1 101 .adr) r1 r1
      (cF rfl (oN .t) r1 trivial
      Chain.nil)))
      hB ?_
    clear hS; intro a w F hS
    obtain ⟨F, hS⟩ := hS.nm [9, 8, 7, 4, 1] [0] rfl rfl
    try dsimp only [List.map, xD, xE, xT, xU, ldSF, rArc, rInt, rPair, rRow, rPart] at hS
    refine then_n (wp_ret (block_r (then_r (then_r (block_r (then_r ?_))))))
    refine ret_P hfr hS rfl (.tmp rfl .nil) (.one (.sl hg))
   have hBq : ¬ u ∈ (Go.Gm.nth ps i).nodes := by simpa using hc1
   refine wp_skip (block_n (then_n ?_))
   refine region_q hS
     (cF rfl (o_add .t (.ci (by kernel_rfl))) r1 trivial
     (cF rfl (oM .t) r1 trivial
     Chain.nil))
     hB ?_
   clear hS; intro a w F hS
   obtain ⟨F, hS⟩ := hS.nm [9, 8, 7, 4, 1] [0] rfl rfl
   try dsimp only [rArc, rInt, rPair, rRow, rPart] at hS
   refine then_n ?_
   replace hS := hS.ent (i := 9) (s' := .pv (.int .i64 ((i + 1 : Nat) : Int))) rfl (.int (wrap_succ (by omega)))
   obtain ⟨F, hS⟩ := hS.nm [8, 7, 4, 1, 9] [0] rfl rfl
   exact ⟨(i + 1), F, ⟨by omega, (by rw [← hq, ofD_drop hil, if_neg hBq])⟩, hS, by omega⟩
  have hil : i = ps.length := by simp at hc0; omega
  have hg : [] = ofD ps u := by rw [← hq, hil, List.drop_length]; rfl
  refine wp_exit (then_x (then_x (block_x (then_n (wp_seq ?_)))))
  refine region_q hS
    (cF rfl (oN (.c rfl)) trivial trivial
    Chain.nil)
    hB ?_
  clear hS; intro a w F hS
  obtain ⟨F, hS⟩ := hS.nm [4] [0] rfl rfl
  try dsimp only [rArc, rInt, rPair, rRow, rPart] at hS
  refine then_n (wp_ret ?_)
  refine ret_P hfr hS rfl (.tmp rfl .nil) (.one (.trans .nilSl (.sl hg)))

end Go.Proofs.YtpahapjcdldodaaDoor
