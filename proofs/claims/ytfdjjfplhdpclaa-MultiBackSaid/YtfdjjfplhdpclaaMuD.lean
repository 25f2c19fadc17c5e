/- Bags: Kinds of the document. No condition beyond those that each theorem says. -/
import Derived.Test.YtfdjjfplhdpclaaMuC
namespace Go.Proofs.Ytfdjjfplhdpclaa
open Go Go.Gm
set_option linter.unusedVariables false
set_option linter.unusedSimpArgs false
set_option maxHeartbeats 4000000
set_option maxRecDepth 8000


theorem kinds17_c (l : List HvD) (f t : Int) (hl : l.length ≤ 900000) : FnP Try.prog 21 [.sl rHv l, .int .i64 f, .int .i64 t] (.int .i64 (kindsB l f t)) := by
  refine FnP.mk Try.func21 rfl Try.ntmps21 rfl ?_
  intro B a w F hB hfr hS
  refine wp_seq ?_
  refine region_q hS
    (cF rfl (oN (.ci (by kernel_rfl))) trivial trivial
    Chain.nil)
    hB ?_
  clear hS; intro a w F hS
  obtain ⟨F, hS⟩ := hS.nm [6, 2, 1, 0] [0] rfl rfl
  try dsimp only [rEdge, rHv, rInt] at hS
  refine then_n (wp_seq ?_)
  refine region_q hS
    (cF rfl (o_buildSliceE (sz := 1) (zs := [.int .i64 0]) (r := [(0, _), (1, _), (2, _), (3, _)]) (l := [_, _, _, _]) Try.underlying64 (by kernel_rfl) (by kernel_rfl) (by kernel_rfl) (by kernel_rfl) rfl rfl (.one rfl (.ci (by kernel_rfl)) one_int (by kernel_rfl) (.one rfl (.ci (by kernel_rfl)) one_int (by kernel_rfl) (.one rfl (.ci (by kernel_rfl)) one_int (by kernel_rfl) (.one rfl (.ci (by kernel_rfl)) one_int (by kernel_rfl) .nil)))) rfl) trivial trivial
    (cF rfl (oN .t) r1 trivial
    Chain.nil))
    hB ?_
  clear hS; intro a w F hS
  obtain ⟨F, hS⟩ := hS.nm [7, 6, 2, 1, 0] [0] rfl rfl
  try dsimp only [List.map, stCells, xL, xM, Nat.reduceAdd, xD, xE, xT, xU, xC, xN, zCF, rEdge, rHv, rInt] at hS
  replace hS := hS.ent (i := 7) (s' := .pv (.sl rInt [1, 2, 4, 8])) rfl (Ent.arrSl (R := rInt) (l := [1, 2, 4, 8]) rfl)
  obtain ⟨F, hS⟩ := hS.nm [7, 6, 2, 1, 0] [0] rfl rfl
  refine then_n (wp_seq ?_)
  refine region_q hS
    (cF rfl (oN (.ci (by kernel_rfl))) trivial trivial
    Chain.nil)
    hB ?_
  clear hS; intro a w F hS
  obtain ⟨F, hS⟩ := hS.nm [8, 7, 6, 2, 1, 0] [0] rfl rfl
  try dsimp only [rEdge, rHv, rInt] at hS
  refine then_n (wp_seq (wp_seq ?_))
  refine region_q hS
    (cF rfl (oN (.ci (by kernel_rfl))) trivial trivial
    Chain.nil)
    hB ?_
  clear hS; intro a w F hS
  obtain ⟨F, hS⟩ := hS.nm [9, 8, 7, 6, 2, 1, 0] [0] rfl rfl
  try dsimp only [rEdge, rHv, rInt] at hS
  refine then_n (wp_block ?_)
  replace hS := hS.ent (i := 8) (s' := .pv (.int .i64 (kP l f t 1))) rfl (.int (by unfold kP bitsN; simp))
  refine loop_keep (σ := Nat) [0, 1, 2, 6, 7] [0] (fun s => [(9, .pv (.int .i64 (s : Int))), (8, .pv (.int .i64 (kP l f t s)))]) (fun s => []) (fun s => 1 ≤ s ∧ s ≤ 4) (fun s => 4 - s) (1) hS ⟨rfl, rfl, rfl, rfl, rfl, rfl, rfl, trivial⟩ ⟨rfl, trivial⟩ ⟨by omega, by omega⟩ ?_
  clear hS; intro k a w F hC hS
  try dsimp only at hC
  obtain ⟨F, hS⟩ := hS.nm [9, 8, 7, 6, 2, 1, 0] [0] rfl rfl
  try dsimp only at hS
  obtain ⟨hk1, hk4⟩ := hC
  have hkb := kP_bd l f t k
  refine wp_seq (wp_seq ?_)
  refine region_q hS
    (cF rfl (oM .t) r1 trivial
    (cF rfl (o_leq .t (.ci (by kernel_rfl))) r1 trivial
    Chain.nil))
    hB ?_
  clear hS; intro a w F hS
  obtain ⟨F, hS⟩ := hS.nm [15, 9, 8, 7, 6, 2, 1, 0] [0] rfl rfl
  try dsimp only [rEdge, rHv, rInt] at hS
  refine then_n ?_
  refine cond_b hS rfl (fun hc0 => ?_) (fun hc0 => ?_)
  ·skip
   have hk3 : k ≤ 3 := by simp at hc0; omega
   refine wp_skip (then_n (wp_seq (wp_block (wp_seq ?_))))
   refine region_q hS
     (cF rfl (oN .cb) trivial trivial
     Chain.nil)
     hB ?_
   clear hS; intro a w F hS
   obtain ⟨F, hS⟩ := hS.nm [10, 9, 8, 7, 6, 2, 1, 0] [0] rfl rfl
   try dsimp only [rEdge, rHv, rInt] at hS
   refine then_n (wp_seq (wp_seq ?_))
   refine region_q hS
     (cF rfl (oM .t) r1 trivial
     (cF rfl (o_len_sl Try.underlying22 .t) r1 trivial
     (cF rfl (oM (.ci (by kernel_rfl))) trivial trivial
     Chain.nil)))
     hB ?_
   clear hS; intro a w F hS
   obtain ⟨F, hS⟩ := hS.nm [20, 19, 18, 10, 9, 8, 7, 6, 2, 1, 0] [0] rfl rfl
   try dsimp only [rEdge, rHv, rInt] at hS
   refine then_n (wp_block ?_)
   replace hS := hS.ent (i := 10) (s' := .pv (.bool (kb (l.take 0) f t (k : Int)))) rfl (.bool (by simp [kb]))
   refine loop_keep (σ := (Nat)) [0, 1, 2, 6, 7, 8, 9, 18, 19] [0] (fun s => [(20, .pv (.int .i64 (s : Int))), (10, .pv (.bool (kb (l.take s) f t (k : Int))))]) (fun s => []) (fun s => s ≤ l.length ∧ (True)) (fun s => l.length - s) (0) hS ⟨rfl, rfl, rfl, rfl, rfl, rfl, rfl, rfl, rfl, rfl, rfl, trivial⟩ ⟨rfl, trivial⟩ ⟨Nat.zero_le _, trivial⟩ ?_
   clear hS; intro i a w F hC hS
   try dsimp only at hC
   obtain ⟨F, hS⟩ := hS.nm [20, 19, 18, 10, 9, 8, 7, 6, 2, 1, 0] [0] rfl rfl
   try dsimp only at hS
   obtain ⟨hi, hq⟩ := hC
   refine wp_seq ?_
   refine region_q hS
     (cF rfl (o_lss .t .t) r2 trivial
     Chain.nil)
     hB ?_
   clear hS; intro a w F hS
   obtain ⟨F, hS⟩ := hS.nm [21, 20, 19, 18, 10, 9, 8, 7, 6, 2, 1, 0] [0] rfl rfl
   try dsimp only [rEdge, rHv, rInt] at hS
   refine then_n (wp_seq ?_)
   refine cond_b hS rfl (fun hc1 => ?_) (fun hc1 => ?_)
   ·skip
    have hil : i < l.length := by simp at hc1; omega
    refine wp_skip (then_n (wp_seq (wp_block (wp_seq ?_))))
    refine region_q hS
      (cF rfl (o_indexAddr_sl (sz := 5) (.mk Try.underlying22 (by kernel_rfl)) (by intro x; rfl) .t .t (by omega) (by omega)) r2 trivial
      (cF rfl (oR true 5 .t) r1 trivial
      (cF rfl (oH [.int .i64 0, .int .i64 0, .int .i64 0, .int .i64 0, .int .i64 0] 101) trivial trivial
      (cF rfl (oA 5 101 .same .t) r2 r1
      Chain.nil))))
      hB ?_
    clear hS; intro a w F hS
    replace hS := hS.sub
    obtain ⟨F, hS⟩ := hS.nm [20, 19, 18, 12, 10, 9, 8, 7, 6, 2, 1, 0] [101, 0] rfl rfl
    try dsimp only [RS.sub, SF.sub, CF.sub, csub, Anc.sub, List.map, stCells, xL, xM, Nat.reduceAdd, xD, xE, xT, xU, xC, xN, zCF, ldSF, rEdge, rHv, rInt] at hS
    generalize Act.tau a 12 = v12 at hS
    try simp only [Int.toNat_natCast] at hS
    refine then_n ?_
    refine region_q hS
      (cF rfl (oM .t) r1 trivial
      (cF rfl (oM .t) r1 trivial
      (Chain.cons (Cert.cond rfl rfl (fun h => o_fieldAddr (off := 0) 101 .is (by kernel_rfl) (by rfl))) r2 r1
      (Chain.cons (Cert.cond rfl rfl (fun h => o_fieldAddr (off := 0) 101 (.w h .adr) (by kernel_rfl) (by rfl))) r2 r1
      (Chain.cons (Cert.cond rfl rfl (fun h => o_load (ag := false) (sz := 1) 101 (.w h .adr) (by kernel_rfl) (by kernel_rfl) (by kernel_rfl) (by rfl))) r2 r1
      (Chain.cons (Cert.cond rfl rfl (fun h => o_move .t (by rfl))) r2 trivial
      (Chain.cons (Cert.cond rfl rfl (fun h => o_eql (.w h) (.w h))) r3 trivial
      (Chain.cons (Cert.cond rfl rfl (fun h => o_move (.w h) (by rfl))) r2 trivial
      (Chain.cons (Cert.cond2 rfl rfl (fun h => o_fieldAddr (off := 0) 101 .is (by kernel_rfl) (by rfl))) r2 r1
      (Chain.cons (Cert.cond2 rfl rfl (fun h => o_fieldAddr (off := 1) 101 (.w h .adr) (by kernel_rfl) (by rfl))) r2 r1
      (Chain.cons (Cert.cond2 rfl rfl (fun h => o_load (ag := false) (sz := 1) 101 (.w h .adr) (by kernel_rfl) (by kernel_rfl) (by kernel_rfl) (by rfl))) r2 r1
      (Chain.cons (Cert.cond2 rfl rfl (fun h => o_move .t (by rfl))) r2 trivial
      (Chain.cons (Cert.cond2 rfl rfl (fun h => o_eql (.w h) (.w h))) r3 trivial
      (Chain.cons (Cert.cond rfl rfl (fun h => o_and2 (.w h) (.wc h))) r3 trivial
      (Chain.cons (Cert.cond rfl rfl (fun h => o_move (.w h) (by rfl))) r2 trivial
      (Chain.cons (Cert.cond2 rfl rfl (fun h => o_fieldAddr (off := 0) 101 .is (by kernel_rfl) (by rfl))) r2 r1
      (Chain.cons (Cert.cond2 rfl rfl (fun h => o_fieldAddr (off := 2) 101 (.w h .adr) (by kernel_rfl) (by rfl))) r2 r1
      (Chain.cons (Cert.cond2 rfl rfl (fun h => o_load (ag := false) (sz := 1) 101 (.w h .adr) (by kernel_rfl) (by kernel_rfl) (by kernel_rfl) (by rfl))) r2 r1
      (Chain.cons (Cert.cond2 rfl rfl (fun h => o_move .t (by rfl))) r2 trivial
      (Chain.cons (Cert.cond2 rfl rfl (fun h => o_eql (.w h) (.w h))) r3 trivial
      (Chain.cons (Cert.cond rfl rfl (fun h => o_and2 (.w h) (.wc h))) r3 trivial
      (cF rfl (o_or2 .t .t) r2 trivial
      (cF rfl (oN .t) r1 trivial
      Chain.nil)))))))))))))))))))))))
      hB ?_
    clear hS; intro a w F hS
    obtain ⟨F, hS⟩ := hS.nm [20, 19, 18, 10, 9, 8, 7, 6, 2, 1, 0] [0] rfl rfl
    try dsimp only [List.map, xD, xE, xT, xU, ldSF, rEdge, rHv, rInt] at hS
    refine block_n (then_n ?_)
    refine region_q hS
      (cF rfl (o_add .t (.ci (by kernel_rfl))) r1 trivial
      (cF rfl (oM .t) r1 trivial
      Chain.nil))
      hB ?_
    clear hS; intro a w F hS
    obtain ⟨F, hS⟩ := hS.nm [20, 19, 18, 10, 9, 8, 7, 6, 2, 1, 0] [0] rfl rfl
    try dsimp only [rEdge, rHv, rInt] at hS
    refine then_n ?_
    replace hS := hS.ent (i := 20) (s' := .pv (.int .i64 ((i + 1 : Nat) : Int))) rfl (.int (wrap_succ (by omega)))
    replace hS := hS.ent (i := 10) (s' := .pv (.bool (kb (l.take (i + 1)) f t (k : Int)))) rfl (.bool (by rw [kb_next hil, Bool.and_assoc]))
    obtain ⟨F, hS⟩ := hS.nm [19, 18, 9, 8, 7, 6, 2, 1, 0, 10, 20] [0] rfl rfl
    exact ⟨(i + 1), F, ⟨by omega, trivial⟩, hS, by omega⟩
   have hil : i = l.length := by simp at hc1; omega
   refine wp_exit (then_x (then_x (block_x (then_n (wp_seq ?_)))))
   refine region_q hS
     (cF rfl (oM .t) r1 trivial
     Chain.nil)
     hB ?_
   clear hS; intro a w F hS
   obtain ⟨F, hS⟩ := hS.nm [47, 9, 8, 7, 6, 2, 1, 0] [0] rfl rfl
   try dsimp only [rEdge, rHv, rInt] at hS
   refine then_n ?_
   refine cond_b hS rfl (fun hc2 => ?_) (fun hc2 => ?_)
   ·skip
    have hkn : IntKind.wrap .i64 (kP l f t k + Go.Gm.nth [1, 2, 4, 8] (k : Int).toNat) = kP l f t (k + 1) := by
      rw [Int.toNat_natCast, kP_next l f t ⟨hk1, hk3⟩, if_pos (by rw [← List.take_length (l := l), ← hil]; exact hc2)]
      have : Go.Gm.nth [(1 : Int), 2, 4, 8] k ≤ 8 ∧ 0 ≤ Go.Gm.nth [(1 : Int), 2, 4, 8] k := by rcases (show k = 1 ∨ k = 2 ∨ k = 3 by omega) with rfl | rfl | rfl <;> decide +kernel
      rw [wrap_i64 (by omega)]
    refine region_q hS
      (cF rfl (oM .t) r1 trivial
      (cF rfl (oM .t) r1 trivial
      (cF rfl (oM .t) r1 trivial
      (cF rfl (o_indexAddr_sl (sz := 1) (.mk Try.underlying64 (by kernel_rfl)) (by intro x; rfl) .t .t (by omega) (by simp; omega)) r2 trivial
      (cF rfl (oR false 1 .t) r1 trivial
      (cF rfl (o_add .t .t) r2 trivial
      (cF rfl (oN .t) r1 trivial
      Chain.nil)))))))
      hB ?_
    clear hS; intro a w F hS
    obtain ⟨F, hS⟩ := hS.nm [9, 8, 7, 6, 2, 1, 0] [0] rfl rfl
    try dsimp only [List.map, xD, xE, xT, xU, ldSF, rEdge, rHv, rInt] at hS
    try simp only [Int.toNat_natCast] at hS
    refine block_n (then_n ?_)
    refine region_q hS
      (cF rfl (oM .t) r1 trivial
      (cF rfl (o_add .t (.ci (by kernel_rfl))) r1 trivial
      (cF rfl (oN .t) r1 trivial
      Chain.nil)))
      hB ?_
    clear hS; intro a w F hS
    obtain ⟨F, hS⟩ := hS.nm [9, 8, 7, 6, 2, 1, 0] [0] rfl rfl
    try dsimp only [rEdge, rHv, rInt] at hS
    refine then_n ?_
    replace hS := hS.ent (i := 9) (s' := .pv (.int .i64 ((k + 1 : Nat) : Int))) rfl (.int (wrap_succ (by omega)))
    replace hS := hS.ent (i := 8) (s' := .pv (.int .i64 (kP l f t (k + 1)))) rfl (.int hkn)
    obtain ⟨F, hS⟩ := hS.nm [7, 6, 2, 1, 0, 8, 9] [0] rfl rfl
    exact ⟨(k + 1), F, ⟨by omega, by omega⟩, hS, (by show 4 - (k + 1) < 4 - k; omega)⟩
   have hkn : kP l f t k = kP l f t (k + 1) := by rw [kP_next l f t ⟨hk1, hk3⟩, if_neg (by rw [← List.take_length (l := l), ← hil, hc2]; decide)]; simp
   refine wp_skip (block_n (then_n ?_))
   refine region_q hS
     (cF rfl (oM .t) r1 trivial
     (cF rfl (o_add .t (.ci (by kernel_rfl))) r1 trivial
     (cF rfl (oN .t) r1 trivial
     Chain.nil)))
     hB ?_
   clear hS; intro a w F hS
   obtain ⟨F, hS⟩ := hS.nm [9, 8, 7, 6, 2, 1, 0] [0] rfl rfl
   try dsimp only [rEdge, rHv, rInt] at hS
   refine then_n ?_
   replace hS := hS.ent (i := 9) (s' := .pv (.int .i64 ((k + 1 : Nat) : Int))) rfl (.int (wrap_succ (by omega)))
   replace hS := hS.ent (i := 8) (s' := .pv (.int .i64 (kP l f t (k + 1)))) rfl (.int hkn)
   obtain ⟨F, hS⟩ := hS.nm [7, 6, 2, 1, 0, 8, 9] [0] rfl rfl
   exact ⟨(k + 1), F, ⟨by omega, by omega⟩, hS, (by show 4 - (k + 1) < 4 - k; omega)⟩
  have hke : k = 4 := by simp at hc0; omega
  refine wp_exit (then_x (then_x (block_x (then_n (wp_seq ?_)))))
  refine region_q hS
    (cF rfl (oM .t) r1 trivial
    (cF rfl (oN .t) r1 trivial
    Chain.nil))
    hB ?_
  clear hS; intro a w F hS
  obtain ⟨F, hS⟩ := hS.nm [6] [0] rfl rfl
  try dsimp only [rEdge, rHv, rInt] at hS
  refine then_n (wp_ret ?_)
  refine ret_P hfr hS rfl (.tmp rfl .nil) (.one (.int (by rw [hke]; exact kP_end l f t)))

end Go.Proofs.Ytfdjjfplhdpclaa
