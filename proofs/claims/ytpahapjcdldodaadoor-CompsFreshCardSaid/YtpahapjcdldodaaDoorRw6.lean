/- Rows put together. No condition beyond those that each theorem says. -/
import Derived.Test.YtpahapjcdldodaaDoorRw5
namespace Go.Proofs.YtpahapjcdldodaaDoor
open Go Go.Gm
set_option linter.unusedVariables false
set_option linter.unusedSimpArgs false
set_option maxHeartbeats 4000000
set_option maxRecDepth 8000


theorem set_nth_self (ws : List Int) (i : Nat) : ws.set i (Go.Gm.nth ws i) = ws := by
  apply List.ext_getElem (by simp)
  intro j h1 h2
  rw [List.getElem_set]
  split
  · rename_i e; subst e; rw [nth_eq h2]
  · rfl

theorem trim_c (b n : Nat) (wv : Value) (ws : List Int) (hI : RowOk n ws) : FnG Tryd.prog 83 1 [.is (.pointer (some ⟨b, 0, none⟩))] [HP.star (bitParts (.pointer (some ⟨b, 0, none⟩)) wv n ws)] (.tup []) (fun _ => [HP.star (bitParts (.pointer (some ⟨b, 0, none⟩)) wv n (trimL n ws))]) := by
  refine FnG.mk Tryd.func83 rfl Tryd.ntmps83 rfl (by kernel_rfl) ?_
  intro B F0 a w F hB hG hS
  obtain ⟨F, hS⟩ := hS.peel 1 2 rfl rfl
  obtain ⟨F, hS⟩ := hS.peel 1 3 rfl rfl
  obtain ⟨F, hS⟩ := hS.nm [0] [3, 2, 0] rfl rfl
  refine wp_seq ?_
  refine region_q hS
    (cF rfl (oM .t) r1 trivial
    (cF rfl (o_nilCheck 2 .is (by rfl)) r1 r1
    (cF rfl (oF 0 2 .adr) r1 r1
    (cF rfl (oL false 1 2 .adr) r1 r1
    (cF rfl (o_and .t (.ci (by kernel_rfl))) r1 trivial
    (cF rfl (oN .t) r1 trivial
    Chain.nil))))))
    hB ?_
  clear hS; intro a w F hS
  obtain ⟨F, hS⟩ := hS.nm [2, 0] [3, 2, 0] rfl rfl
  try dsimp only [List.map, xD, xE, xT, xU, ldSF] at hS
  rw [and63 _ (by have := hI.hi; omega)] at hS
  refine then_n (wp_seq ?_)
  refine region_q hS
    (cF rfl (oM .t) r1 trivial
    (cF rfl (o_gtr .t (.ci (by kernel_rfl))) r1 trivial
    Chain.nil))
    hB ?_
  clear hS; intro a w F hS
  obtain ⟨F, hS⟩ := hS.nm [9, 2, 0] [3, 2, 0] rfl rfl
  refine then_n ?_
  refine cond_b hS rfl (fun hc0 => ?_) (fun hc0 => ?_)
  ·skip
   have hn0 : 0 < n % 64 := by simp at hc0; omega
   have hlw := hI.len
   have hhi := hI.hi
   have hq0 : 0 ≤ IntKind.wrap .i64 ((ws.length : Int) - 1) := by rw [wrap_i64 (by omega)]; omega
   have hq1 : IntKind.wrap .i64 ((ws.length : Int) - 1) < ws.length := by rw [wrap_i64 (by omega)]; omega
   have hq2 : (IntKind.wrap .i64 ((ws.length : Int) - 1)).toNat = ws.length - 1 := by rw [wrap_i64 (by omega)]; omega
   refine region_any (by kernel_rfl) hS (by kernel_rfl)
     (cF rfl (oM .t) r1 trivial
     (cF rfl (o_nilCheck 2 .is (by rfl)) r1 r1
     (cF rfl (oF 1 2 .adr) r1 r1
     (cF rfl (oL false 1 2 .adr) r1 r1
     (cF rfl (oM .t) r1 trivial
     (cF rfl (o_nilCheck 2 .is (by rfl)) r1 r1
     (cF rfl (oF 1 2 .adr) r1 r1
     (cF rfl (oL false 1 2 .adr) r1 r1
     (cF rfl (o_len_row 3 Tryd.underlying102 .is) r1 r1
     (cF rfl (o_sub .t (.ci (by kernel_rfl))) r1 trivial
     (cF rfl (o_indexAddr_row (sz := 1) 3 (.mk Tryd.underlying102 (by kernel_rfl)) .is .t hq0 hq1 (by rfl)) r2 r1
     (cF rfl (o_load_row0 (ag := false) (sz' := 1) (sz := 1) 3 .t (by intro x; rfl) (by omega) (by kernel_rfl) (by kernel_rfl) (by kernel_rfl)) r1 r1
     (cF rfl (oM .t) r1 trivial
     (cF rfl (o_conv Tryd.underlying103 (by kernel_rfl) .t) r1 trivial
     (cF rfl (o_shl (.ci (by kernel_rfl)) .t (u64_nonneg _)) r1 trivial
     (cF rfl (o_sub .t (.ci (by kernel_rfl))) r1 trivial
     (cF rfl (o_and .t .t) r2 trivial
     (cF rfl (o_indexAddr_row (sz := 1) 3 (.mk Tryd.underlying102 (by kernel_rfl)) .is .t hq0 hq1 (by rfl)) r2 r1
     (cF rfl (o_store_row1 (R := rU64) (sz := 1) (v := _) 3 .t (by intro x; rfl) (by omega) .t rfl one_int (by kernel_rfl)) r2 r1
     Chain.nil)))))))))))))))))))
     (by kernel_rfl) (by rw [hB]; kernel_rfl) ?_
   clear hS; intro a w F hS
   obtain ⟨F, hS⟩ := hS.nm [] [3, 2, 0] rfl rfl
   try dsimp only [List.map, stCells, xL, xM, Nat.reduceAdd, xD, xE, xT, xU, xC, xN, zCF, ldSF] at hS
   rw [hq2, trim_word hn0 (hI.wd _)] at hS
   have hg : ws.set (ws.length - 1) (trimW n (Go.Gm.nth ws (ws.length - 1))) = trimL n ws := rfl
   obtain ⟨F, hS⟩ := hS.nm [] [3, 2, 0] rfl rfl
   rw [hg] at hS
   have hS := hS.fresh 1 rfl
   obtain ⟨F, hS⟩ := hS.push 1 3 rfl rfl rfl (by kernel_rfl)
   obtain ⟨F, hS⟩ := hS.push 1 2 rfl rfl rfl (by kernel_rfl)
   have hS := hS.turn 1 rfl (r' := RS.hp (HP.star (bitParts (.pointer (some ⟨b, 0, none⟩)) wv n (trimL n ws)))) (fun _ _ _ _ h => h)
   refine ret_G1 hG hS rfl .nil .none rfl
  have hg : ws = trimL n ws := by
    unfold trimL trimW
    rw [if_pos (by simp at hc0; omega)]
    exact (set_nth_self _ _).symm
  refine wp_skip ?_
  obtain ⟨F, hS⟩ := hS.nm [] [3, 2, 0] rfl rfl
  rw [hg] at hS
  have hS := hS.fresh 1 rfl
  obtain ⟨F, hS⟩ := hS.push 1 3 rfl rfl rfl (by kernel_rfl)
  obtain ⟨F, hS⟩ := hS.push 1 2 rfl rfl rfl (by kernel_rfl)
  have hS := hS.turn 1 rfl (r' := RS.hp (HP.star (bitParts (.pointer (some ⟨b, 0, none⟩)) wv n (trimL n ws)))) (fun _ _ _ _ h => h)
  refine ret_G1 hG hS rfl .nil .none rfl

theorem each_ref {g : FuncId} {f : Int → Int → Int} {gb : Bool → Bool → Bool} (hf : BitOp f gb) {fn : Func} (hfn : Tryd.prog.funcs[g]? = some fn) (hbd : fn.body.isSome = true) (hnm : (fn.name == "runtime.NumGoroutine") = false) (hc : ∀ p q, FnP Tryd.prog g [.int .u64 p, .int .u64 q] (.int .u64 (f p q))) (b n : Nat) (ws : List Int) (m : Nat) (us : List Int) (hu : ∀ k, 0 ≤ Go.Gm.nth us k ∧ Go.Gm.nth us k < 18446744073709551616) : FnG Tryd.prog 69 1 [.is (.pointer (some ⟨b, 0, none⟩)), .ref [.int .i64 m, .sl rU64 us], .is (.func (.func g) #[] #[])] [bitsH (.pointer (some ⟨b, 0, none⟩)) n ws] (.bool (!decide (ws = (eachW f n ws us)))) (fun _ => [bitsH (.pointer (some ⟨b, 0, none⟩)) n (eachW f n ws us)]) := by
  refine FnG.mk Tryd.func69 rfl Tryd.ntmps69 rfl (by kernel_rfl) ?_
  intro B F0 a w F hB hG hS
  obtain ⟨wv, hS⟩ := hS.open_ex 1 rfl
  obtain ⟨hI, hS⟩ := hS.open_and 1 rfl
  obtain ⟨F, hS⟩ := hS.peel 1 2 rfl rfl
  obtain ⟨F, hS⟩ := hS.peel 1 3 rfl rfl
  obtain ⟨F, hS⟩ := hS.nm [2, 1, 0] [3, 2, 0] rfl rfl
  have hhi := hI.hi
  have hlw := hI.len
  have hll : ws.length ≤ 9223372036854775807 := by omega
  refine wp_seq ?_
  refine region_q hS
    (cF rfl (oN .cb) trivial trivial
    Chain.nil)
    hB ?_
  clear hS; intro a w F hS
  obtain ⟨F, hS⟩ := hS.nm [6, 2, 1, 0] [3, 2, 0] rfl rfl
  refine then_n (wp_seq (wp_seq ?_))
  refine region_q hS
    (cF rfl (oM .t) r1 trivial
    (cF rfl (o_nil_eql _ Tryd.underlying72 rfl .t) r1 trivial
    Chain.nil))
    hB ?_
  clear hS; intro a w F hS
  obtain ⟨F, hS⟩ := hS.nm [12, 6, 2, 1, 0] [3, 2, 0] rfl rfl
  refine then_n ?_
  refine cond_b hS rfl (fun hc0 => ?_) (fun hc0 => ?_)
  ·skip
   simp at hc0
  refine wp_skip (then_n (wp_seq ?_))
  refine region_q hS
    (cF rfl (oN .cb) trivial trivial
    Chain.nil)
    hB ?_
  clear hS; intro a w F hS
  obtain ⟨F, hS⟩ := hS.nm [7, 6, 2, 1, 0] [3, 2, 0] rfl rfl
  refine then_n (wp_seq (wp_seq ?_))
  refine region_q hS
    (cF rfl (oM .t) r1 trivial
    (cF rfl (o_nilCheck 2 .is (by rfl)) r1 r1
    (cF rfl (oF 1 2 .adr) r1 r1
    (cF rfl (oL false 1 2 .adr) r1 r1
    (cF rfl (o_len_row 3 Tryd.underlying102 .is) r1 r1
    (cF rfl (oM (.ci (by kernel_rfl))) trivial trivial
    Chain.nil))))))
    hB ?_
  clear hS; intro a w F hS
  obtain ⟨F, hS⟩ := hS.nm [18, 17, 16, 7, 6, 2, 1, 0] [3, 2, 0] rfl rfl
  try dsimp only [List.map, xD, xE, xT, xU, ldSF] at hS
  refine then_n (wp_block ?_)
  replace hS := hS.ent (i := 7) (s' := .pv (.bool (!decide (ws.take 0 = (eachW f n ws us).take 0)))) rfl (.bool (by simp))
  replace hS := hS.turn 3 rfl (r' := .ob (.val wv) (rowH 107 1 rU64 (midW f n ws us 0))) (by rw [midW_zero]; exact fun _ _ _ _ h => h)
  refine loop_keep (σ := (Nat)) [0, 1, 2, 6, 16, 17] [0, 2] (fun s => [(18, .pv (.int .i64 (s : Int))), (7, .pv (.bool (!decide (ws.take s = (eachW f n ws us).take s))))]) (fun s => [(3, .ob (.val wv) (rowH 107 1 rU64 (midW f n ws us s)))]) (fun s => s ≤ ws.length ∧ (True)) (fun s => ws.length - s) (0) hS ⟨rfl, rfl, rfl, rfl, rfl, rfl, rfl, rfl, trivial⟩ ⟨rfl, rfl, rfl, trivial⟩ ⟨Nat.zero_le _, trivial⟩ ?_
  clear hS; intro i a w F hC hS
  try dsimp only at hC
  obtain ⟨F, hS⟩ := hS.nm [18, 17, 16, 7, 6, 2, 1, 0] [3, 2, 0] rfl rfl
  try dsimp only at hS
  obtain ⟨hi, hq⟩ := hC
  refine wp_seq ?_
  refine region_q hS
    (cF rfl (o_lss .t .t) r2 trivial
    Chain.nil)
    hB ?_
  clear hS; intro a w F hS
  obtain ⟨F, hS⟩ := hS.nm [19, 18, 17, 16, 7, 6, 2, 1, 0] [3, 2, 0] rfl rfl
  refine then_n (wp_seq ?_)
  refine cond_b hS rfl (fun hc1 => ?_) (fun hc1 => ?_)
  ·skip
   have hil : i < ws.length := by simp at hc1; omega
   have hml := midW_len (f := f) (n := n) (ws := ws) (us := us) (i := i) (by omega)
   have hml1 := midW_len (f := f) (n := n) (ws := ws) (us := us) (i := i + 1) (by omega)
   refine wp_skip (then_n (wp_seq (wp_block (wp_seq ?_))))
   refine region_q hS
     (cF rfl (oM .t) r1 trivial
     (cF rfl (o_indexAddr_row (sz := 1) 3 (.mk Tryd.underlying102 (by kernel_rfl)) .is .t (by omega) (by omega) (by rfl)) r2 r1
     (cF rfl (o_load_row0 (ag := false) (sz' := 1) (sz := 1) 3 .t (by intro x; rfl) (by rw [Int.toNat_natCast]; omega) (by kernel_rfl) (by kernel_rfl) (by kernel_rfl)) r1 r1
     (cF rfl (oN .t) r1 trivial
     (cF rfl (oN .t) r1 trivial
     Chain.nil)))))
     hB ?_
   clear hS; intro a w F hS
   obtain ⟨F, hS⟩ := hS.nm [22, 21, 20, 19, 18, 17, 16, 9, 8, 7, 6, 2, 1, 0] [3, 2, 0] rfl rfl
   try dsimp only [List.map, xD, xE, xT, xU, ldSF] at hS
   try simp only [Int.toNat_natCast] at hS
   rw [midW_nth hil] at hS
   refine then_n (wp_seq ?_)
   refine region_q hS
     (cF rfl (oN (.ci (by kernel_rfl))) trivial trivial
     Chain.nil)
     hB ?_
   clear hS; intro a w F hS
   obtain ⟨F, hS⟩ := hS.nm [22, 21, 20, 19, 18, 17, 16, 10, 9, 8, 7, 6, 2, 1, 0] [3, 2, 0] rfl rfl
   refine then_n (wp_seq (wp_seq ?_))
   refine region_q hS
     (cF rfl (oM .t) r1 trivial
     (cF rfl (o_ref_neq Tryd.underlying72 .t) r1 trivial
     (cF rfl (oM .t) r1 trivial
     (Chain.cons (Cert.cond rfl rfl (fun h => o_move .t (by rfl))) r2 trivial
     (Chain.cons (Cert.cond rfl rfl (fun h => o_move .t (by rfl))) r2 trivial
     (Chain.cons (Cert.cond rfl rfl (fun h => o_nilCheck_ref (.w h))) r2 trivial
     (Chain.cons (Cert.cond rfl rfl (fun h => o_fieldAddr_ref (off := 1) (.w h) (by kernel_rfl))) r2 trivial
     (Chain.cons (Cert.cond rfl rfl (fun h => o_load_ref (ag := false) (sz := 1) (.w h) (by kernel_rfl) (by kernel_rfl) (by kernel_rfl))) r2 trivial
     (Chain.cons (Cert.cond rfl rfl (fun h => o_len_sl Tryd.underlying102 (.w h))) r2 trivial
     (Chain.cons (Cert.cond rfl rfl (fun h => o_lss (.w h) (.w h))) r3 trivial
     (cF rfl (o_and2 .t .t) r2 trivial
     Chain.nil)))))))))))
     hB ?_
   clear hS; intro a w F hS
   obtain ⟨F, hS⟩ := hS.nm [33, 32, 31, 30, 29, 28, 27, 26, 25, 24, 23, 22, 21, 20, 19, 18, 17, 16, 10, 9, 8, 7, 6, 2, 1, 0] [3, 2, 0] rfl rfl
   try dsimp only [List.map, xD, xE, xT, xU, ldSF] at hS
   refine then_n ?_
   refine cond_b hS rfl (fun hc2 => ?_) (fun hc2 => ?_)
   ·skip
    have hiu : i < us.length := by simp at hc2; omega
    refine region_q hS
      (cF rfl (oM .t) r1 trivial
      (cF rfl (o_nilCheck_ref .t) r1 trivial
      (cF rfl (oG 1 .t) r1 trivial
      (cF rfl (oR false 1 .t) r1 trivial
      (cF rfl (oM .t) r1 trivial
      (cF rfl (o_indexAddr_sl (sz := 1) (.mk Tryd.underlying102 (by kernel_rfl)) (by intro x; rfl) .t .t (by omega) (by omega)) r2 trivial
      (cF rfl (oR false 1 .t) r1 trivial
      (cF rfl (oN .t) r1 trivial
      Chain.nil))))))))
      hB ?_
    clear hS; intro a w F hS
    obtain ⟨F, hS⟩ := hS.nm [40, 39, 38, 37, 36, 35, 34, 33, 32, 31, 30, 29, 28, 27, 26, 25, 24, 23, 22, 21, 20, 19, 18, 17, 16, 10, 9, 8, 7, 6, 2, 1, 0] [3, 2, 0] rfl rfl
    try dsimp only [List.map, xD, xE, xT, xU, ldSF] at hS
    try simp only [Int.toNat_natCast] at hS
    refine then_n (wp_seq ?_)
    refine region_any (by kernel_rfl) hS (by kernel_rfl)
      (cF rfl (oM .t) r1 trivial
      (cF rfl (o_nilCheck 2 .is (by rfl)) r1 r1
      (cF rfl (oF 1 2 .adr) r1 r1
      (cF rfl (oL false 1 2 .adr) r1 r1
      (cF rfl (oM .t) r1 trivial
      (cF rfl (oM .t) r1 trivial
      (cF rfl (oM .t) r1 trivial
      (cF rfl (oM .t) r1 trivial
      (cF rfl (o_callPV .t (hc _ _) hfn hbd hnm (Args.two .t .t)) r3 trivial
      (cF rfl (o_indexAddr_row (sz := 1) 3 (.mk Tryd.underlying102 (by kernel_rfl)) .is .t (by omega) (by omega) (by rfl)) r2 r1
      (cF rfl (o_store_row1 (R := rU64) (sz := 1) (v := _) 3 .t (by intro x; rfl) (by rw [Int.toNat_natCast]; omega) .t rfl one_int (by kernel_rfl)) r2 r1
      Chain.nil)))))))))))
      (by kernel_rfl) (by rw [hB]; kernel_rfl) ?_
    clear hS; intro a w F hS
    obtain ⟨F, hS⟩ := hS.nm [50, 49, 48, 47, 46, 45, 44, 43, 42, 41, 40, 39, 38, 37, 36, 35, 34, 33, 32, 31, 30, 29, 28, 27, 26, 25, 24, 23, 22, 21, 20, 19, 18, 17, 16, 10, 9, 8, 7, 6, 2, 1, 0] [3, 2, 0] rfl rfl
    try dsimp only [List.map, stCells, xL, xM, Nat.reduceAdd, xD, xE, xT, xU, xC, xN, zCF, ldSF] at hS
    try simp only [Int.toNat_natCast] at hS
    refine then_n (wp_seq (wp_seq ?_))
    refine region_q hS
      (cF rfl (oM .t) r1 trivial
      (cF rfl (oM .t) r1 trivial
      (cF rfl (o_nilCheck 2 .is (by rfl)) r1 r1
      (cF rfl (oF 1 2 .adr) r1 r1
      (cF rfl (oL false 1 2 .adr) r1 r1
      (cF rfl (o_len_row 3 Tryd.underlying102 .is) r1 r1
      (cF rfl (o_sub .t (.ci (by kernel_rfl))) r1 trivial
      (cF rfl (o_eql .t .t) r2 trivial
      Chain.nil))))))))
      hB ?_
    clear hS; intro a w F hS
    obtain ⟨F, hS⟩ := hS.nm [58, 57, 56, 55, 54, 53, 52, 51, 50, 49, 48, 47, 46, 45, 44, 43, 42, 41, 40, 39, 38, 37, 36, 35, 34, 33, 32, 31, 30, 29, 28, 27, 26, 25, 24, 23, 22, 21, 20, 19, 18, 17, 16, 10, 9, 8, 7, 6, 2, 1, 0] [3, 2, 0] rfl rfl
    try dsimp only [List.map, xD, xE, xT, xU, ldSF] at hS
    refine then_n ?_
    refine cond_b hS rfl (fun hc3 => ?_) (fun hc3 => ?_)
    ·skip
     have hlast : i + 1 = ws.length := by
       have h' := hc3
       simp only [List.length_set, hml, decide_eq_true_eq] at h'
       rw [wrap_i64 (by omega)] at h'
       omega
     obtain ⟨F, hS⟩ := hS.nm [58, 57, 56, 55, 54, 53, 52, 51, 50, 49, 48, 47, 46, 45, 44, 43, 42, 41, 40, 39, 38, 37, 36, 35, 34, 33, 32, 31, 30, 29, 28, 27, 26, 25, 24, 23, 22, 21, 20, 19, 18, 17, 16, 10, 9, 8, 7, 6, 2, 1, 0] [3, 2, 0] rfl rfl
     have hS := hS.fresh 1 rfl
     obtain ⟨F, hS⟩ := hS.push 1 3 rfl rfl rfl (by kernel_rfl)
     obtain ⟨F, hS⟩ := hS.push 1 2 rfl rfl rfl (by kernel_rfl)
     have hJ : RowOk n ((midW f n ws us i).set i (f (Go.Gm.nth ws i) (Go.Gm.nth us i))) := (midW_ok hf hI hu (by omega)).setN i (hf.rg _ _ (hI.wd i) (hu i))
     obtain ⟨F, hS⟩ := hS.nm [58, 57, 56, 55, 54, 53, 52, 51, 50, 49, 48, 47, 46, 45, 44, 43, 42, 41, 40, 39, 38, 37, 36, 35, 34, 33, 32, 31, 30, 29, 28, 27, 26, 25, 24, 23, 22, 21, 20, 19, 18, 17, 16, 10, 9, 8, 7, 6, 2, 1, 0] [1, 0] rfl rfl
     refine region_q hS
       (cF rfl (oM .t) r1 trivial
       (cF rfl (o_callG1 1 (trim_c b n wv _ hJ) Tryd.func83 rfl (by kernel_rfl) (Args.one .t)) r1 r1
       Chain.nil))
       hB ?_
     clear hS; intro a w F hS
     obtain ⟨F, hS⟩ := hS.nm [59, 58, 57, 56, 55, 54, 53, 52, 51, 50, 49, 48, 47, 46, 45, 44, 43, 42, 41, 40, 39, 38, 37, 36, 35, 34, 33, 32, 31, 30, 29, 28, 27, 26, 25, 24, 23, 22, 21, 20, 19, 18, 17, 16, 10, 9, 8, 7, 6, 2, 1, 0] [1, 0] rfl rfl
     rw [midW_trim hlast] at hS
     obtain ⟨F, hS⟩ := hS.peel 1 2 rfl rfl
     obtain ⟨F, hS⟩ := hS.peel 1 3 rfl rfl
     obtain ⟨F, hS⟩ := hS.nm [59, 58, 57, 56, 55, 54, 53, 52, 51, 50, 49, 48, 47, 46, 45, 44, 43, 42, 41, 40, 39, 38, 37, 36, 35, 34, 33, 32, 31, 30, 29, 28, 27, 26, 25, 24, 23, 22, 21, 20, 19, 18, 17, 16, 10, 9, 8, 7, 6, 2, 1, 0] [3, 2, 0] rfl rfl
     refine then_n ?_
     refine region_q hS
       (cF rfl (oM .t) r1 trivial
       (cF rfl (oM .t) r1 trivial
       (Chain.cons (Cert.cond rfl rfl (fun h => o_move .t (by rfl))) r2 trivial
       (Chain.cons (Cert.cond rfl rfl (fun h => o_nilCheck 2 (.w h .is) (by rfl))) r2 r1
       (Chain.cons (Cert.cond rfl rfl (fun h => o_fieldAddr (off := 1) 2 (.w h .adr) (by kernel_rfl) (by rfl))) r2 r1
       (Chain.cons (Cert.cond rfl rfl (fun h => o_load (ag := false) (sz := 1) 2 (.w h .adr) (by kernel_rfl) (by kernel_rfl) (by kernel_rfl) (by rfl))) r2 r1
       (Chain.cons (Cert.cond rfl rfl (fun h => o_move .t (by rfl))) r2 trivial
       (Chain.cons (Cert.cond rfl rfl (fun h => o_indexAddr_row (sz := 1) 3 (.mk Tryd.underlying102 (by kernel_rfl)) (.w h .is) (.w h) (by omega) (by omega) (by rfl))) r3 r1
       (Chain.cons (Cert.cond rfl rfl (fun h => o_load_row0 (ag := false) (sz' := 1) (sz := 1) 3 (.w h) (by intro x; rfl) (by rw [Int.toNat_natCast]; omega) (by kernel_rfl) (by kernel_rfl) (by kernel_rfl))) r2 r1
       (Chain.cons (Cert.cond rfl rfl (fun h => o_move .t (by rfl))) r2 trivial
       (Chain.cons (Cert.cond rfl rfl (fun h => o_neq (.w h) (.w h))) r3 trivial
       (cF rfl (o_or2 .t .t) r2 trivial
       (cF rfl (oN .t) r1 trivial
       Chain.nil)))))))))))))
       hB ?_
     clear hS; intro a w F hS
     obtain ⟨F, hS⟩ := hS.nm [72, 71, 70, 69, 68, 67, 66, 65, 64, 63, 62, 61, 59, 58, 57, 56, 55, 54, 53, 52, 51, 50, 49, 48, 47, 46, 45, 44, 43, 42, 41, 40, 39, 38, 37, 36, 35, 34, 33, 32, 31, 30, 29, 28, 27, 26, 25, 24, 23, 22, 21, 20, 19, 18, 17, 16, 10, 9, 8, 7, 6, 2, 1, 0] [3, 2, 0] rfl rfl
     try dsimp only [List.map, xD, xE, xT, xU, ldSF] at hS
     try simp only [Int.toNat_natCast] at hS
     simp only [midW_nth1 hil] at hS
     refine block_n (then_n ?_)
     refine region_q hS
       (cF rfl (o_add .t (.ci (by kernel_rfl))) r1 trivial
       (cF rfl (oM .t) r1 trivial
       Chain.nil))
       hB ?_
     clear hS; intro a w F hS
     obtain ⟨F, hS⟩ := hS.nm [73, 72, 71, 70, 69, 68, 67, 66, 65, 64, 63, 62, 61, 59, 58, 57, 56, 55, 54, 53, 52, 51, 50, 49, 48, 47, 46, 45, 44, 43, 42, 41, 40, 39, 38, 37, 36, 35, 34, 33, 32, 31, 30, 29, 28, 27, 26, 25, 24, 23, 22, 21, 20, 19, 18, 17, 16, 10, 9, 8, 7, 6, 2, 1, 0] [3, 2, 0] rfl rfl
     refine then_n ?_
     replace hS := hS.ent (i := 18) (s' := .pv (.int .i64 ((i + 1 : Nat) : Int))) rfl (.int (wrap_succ (by omega)))
     replace hS := hS.ent (i := 7) (s' := .pv (.bool (!decide (ws.take (i + 1) = (eachW f n ws us).take (i + 1))))) rfl (.bool (chg_step (eachW_len f n ws us) hil))
     obtain ⟨F, hS⟩ := hS.nm [17, 16, 6, 2, 1, 0, 7, 18] [2, 0, 3] rfl rfl
     exact ⟨(i + 1), F, ⟨by omega, trivial⟩, hS, by omega⟩
    have hnl : i + 1 ≠ ws.length := by
      have h' := hc3
      simp only [List.length_set, hml, decide_eq_false_iff_not] at h'
      rw [wrap_i64 (by omega)] at h'
      omega
    rw [midW_set hil hnl] at hS
    refine wp_skip (then_n ?_)
    refine region_q hS
      (cF rfl (oM .t) r1 trivial
      (cF rfl (oM .t) r1 trivial
      (Chain.cons (Cert.cond rfl rfl (fun h => o_move .t (by rfl))) r2 trivial
      (Chain.cons (Cert.cond rfl rfl (fun h => o_nilCheck 2 (.w h .is) (by rfl))) r2 r1
      (Chain.cons (Cert.cond rfl rfl (fun h => o_fieldAddr (off := 1) 2 (.w h .adr) (by kernel_rfl) (by rfl))) r2 r1
      (Chain.cons (Cert.cond rfl rfl (fun h => o_load (ag := false) (sz := 1) 2 (.w h .adr) (by kernel_rfl) (by kernel_rfl) (by kernel_rfl) (by rfl))) r2 r1
      (Chain.cons (Cert.cond rfl rfl (fun h => o_move .t (by rfl))) r2 trivial
      (Chain.cons (Cert.cond rfl rfl (fun h => o_indexAddr_row (sz := 1) 3 (.mk Tryd.underlying102 (by kernel_rfl)) (.w h .is) (.w h) (by omega) (by omega) (by rfl))) r3 r1
      (Chain.cons (Cert.cond rfl rfl (fun h => o_load_row0 (ag := false) (sz' := 1) (sz := 1) 3 (.w h) (by intro x; rfl) (by rw [Int.toNat_natCast]; omega) (by kernel_rfl) (by kernel_rfl) (by kernel_rfl))) r2 r1
      (Chain.cons (Cert.cond rfl rfl (fun h => o_move .t (by rfl))) r2 trivial
      (Chain.cons (Cert.cond rfl rfl (fun h => o_neq (.w h) (.w h))) r3 trivial
      (cF rfl (o_or2 .t .t) r2 trivial
      (cF rfl (oN .t) r1 trivial
      Chain.nil)))))))))))))
      hB ?_
    clear hS; intro a w F hS
    obtain ⟨F, hS⟩ := hS.nm [72, 71, 70, 69, 68, 67, 66, 65, 64, 63, 62, 61, 58, 57, 56, 55, 54, 53, 52, 51, 50, 49, 48, 47, 46, 45, 44, 43, 42, 41, 40, 39, 38, 37, 36, 35, 34, 33, 32, 31, 30, 29, 28, 27, 26, 25, 24, 23, 22, 21, 20, 19, 18, 17, 16, 10, 9, 8, 7, 6, 2, 1, 0] [3, 2, 0] rfl rfl
    try dsimp only [List.map, xD, xE, xT, xU, ldSF] at hS
    try simp only [Int.toNat_natCast] at hS
    simp only [midW_nth1 hil] at hS
    refine block_n (then_n ?_)
    refine region_q hS
      (cF rfl (o_add .t (.ci (by kernel_rfl))) r1 trivial
      (cF rfl (oM .t) r1 trivial
      Chain.nil))
      hB ?_
    clear hS; intro a w F hS
    obtain ⟨F, hS⟩ := hS.nm [73, 72, 71, 70, 69, 68, 67, 66, 65, 64, 63, 62, 61, 58, 57, 56, 55, 54, 53, 52, 51, 50, 49, 48, 47, 46, 45, 44, 43, 42, 41, 40, 39, 38, 37, 36, 35, 34, 33, 32, 31, 30, 29, 28, 27, 26, 25, 24, 23, 22, 21, 20, 19, 18, 17, 16, 10, 9, 8, 7, 6, 2, 1, 0] [3, 2, 0] rfl rfl
    refine then_n ?_
    replace hS := hS.ent (i := 18) (s' := .pv (.int .i64 ((i + 1 : Nat) : Int))) rfl (.int (wrap_succ (by omega)))
    replace hS := hS.ent (i := 7) (s' := .pv (.bool (!decide (ws.take (i + 1) = (eachW f n ws us).take (i + 1))))) rfl (.bool (chg_step (eachW_len f n ws us) hil))
    obtain ⟨F, hS⟩ := hS.nm [17, 16, 6, 2, 1, 0, 7, 18] [2, 0, 3] rfl rfl
    exact ⟨(i + 1), F, ⟨by omega, trivial⟩, hS, by omega⟩
   replace hS := hS.ent (i := 10) (s' := .pv (.int .u64 (Go.Gm.nth us i))) rfl (.int (nth_out (by first | (simp at hc2; omega) | simp)).symm)
   obtain ⟨F, hS⟩ := hS.nm [33, 32, 31, 30, 29, 28, 27, 26, 25, 24, 23, 22, 21, 20, 19, 18, 17, 16, 10, 9, 8, 7, 6, 2, 1, 0] [3, 2, 0] rfl rfl
   refine wp_skip (then_n (wp_seq ?_))
   refine region_any (by kernel_rfl) hS (by kernel_rfl)
     (cF rfl (oM .t) r1 trivial
     (cF rfl (o_nilCheck 2 .is (by rfl)) r1 r1
     (cF rfl (oF 1 2 .adr) r1 r1
     (cF rfl (oL false 1 2 .adr) r1 r1
     (cF rfl (oM .t) r1 trivial
     (cF rfl (oM .t) r1 trivial
     (cF rfl (oM .t) r1 trivial
     (cF rfl (oM .t) r1 trivial
     (cF rfl (o_callPV .t (hc _ _) hfn hbd hnm (Args.two .t .t)) r3 trivial
     (cF rfl (o_indexAddr_row (sz := 1) 3 (.mk Tryd.underlying102 (by kernel_rfl)) .is .t (by omega) (by omega) (by rfl)) r2 r1
     (cF rfl (o_store_row1 (R := rU64) (sz := 1) (v := _) 3 .t (by intro x; rfl) (by rw [Int.toNat_natCast]; omega) .t rfl one_int (by kernel_rfl)) r2 r1
     Chain.nil)))))))))))
     (by kernel_rfl) (by rw [hB]; kernel_rfl) ?_
   clear hS; intro a w F hS
   obtain ⟨F, hS⟩ := hS.nm [50, 49, 48, 47, 46, 45, 44, 43, 42, 41, 33, 32, 31, 30, 29, 28, 27, 26, 25, 24, 23, 22, 21, 20, 19, 18, 17, 16, 10, 9, 8, 7, 6, 2, 1, 0] [3, 2, 0] rfl rfl
   try dsimp only [List.map, stCells, xL, xM, Nat.reduceAdd, xD, xE, xT, xU, xC, xN, zCF, ldSF] at hS
   try simp only [Int.toNat_natCast] at hS
   refine then_n (wp_seq (wp_seq ?_))
   refine region_q hS
     (cF rfl (oM .t) r1 trivial
     (cF rfl (oM .t) r1 trivial
     (cF rfl (o_nilCheck 2 .is (by rfl)) r1 r1
     (cF rfl (oF 1 2 .adr) r1 r1
     (cF rfl (oL false 1 2 .adr) r1 r1
     (cF rfl (o_len_row 3 Tryd.underlying102 .is) r1 r1
     (cF rfl (o_sub .t (.ci (by kernel_rfl))) r1 trivial
     (cF rfl (o_eql .t .t) r2 trivial
     Chain.nil))))))))
     hB ?_
   clear hS; intro a w F hS
   obtain ⟨F, hS⟩ := hS.nm [58, 57, 56, 55, 54, 53, 52, 51, 50, 49, 48, 47, 46, 45, 44, 43, 42, 41, 33, 32, 31, 30, 29, 28, 27, 26, 25, 24, 23, 22, 21, 20, 19, 18, 17, 16, 10, 9, 8, 7, 6, 2, 1, 0] [3, 2, 0] rfl rfl
   try dsimp only [List.map, xD, xE, xT, xU, ldSF] at hS
   refine then_n ?_
   refine cond_b hS rfl (fun hc4 => ?_) (fun hc4 => ?_)
   ·skip
    have hlast : i + 1 = ws.length := by
      have h' := hc4
      simp only [List.length_set, hml, decide_eq_true_eq] at h'
      rw [wrap_i64 (by omega)] at h'
      omega
    obtain ⟨F, hS⟩ := hS.nm [58, 57, 56, 55, 54, 53, 52, 51, 50, 49, 48, 47, 46, 45, 44, 43, 42, 41, 33, 32, 31, 30, 29, 28, 27, 26, 25, 24, 23, 22, 21, 20, 19, 18, 17, 16, 10, 9, 8, 7, 6, 2, 1, 0] [3, 2, 0] rfl rfl
    have hS := hS.fresh 1 rfl
    obtain ⟨F, hS⟩ := hS.push 1 3 rfl rfl rfl (by kernel_rfl)
    obtain ⟨F, hS⟩ := hS.push 1 2 rfl rfl rfl (by kernel_rfl)
    have hJ : RowOk n ((midW f n ws us i).set i (f (Go.Gm.nth ws i) (Go.Gm.nth us i))) := (midW_ok hf hI hu (by omega)).setN i (hf.rg _ _ (hI.wd i) (hu i))
    obtain ⟨F, hS⟩ := hS.nm [58, 57, 56, 55, 54, 53, 52, 51, 50, 49, 48, 47, 46, 45, 44, 43, 42, 41, 33, 32, 31, 30, 29, 28, 27, 26, 25, 24, 23, 22, 21, 20, 19, 18, 17, 16, 10, 9, 8, 7, 6, 2, 1, 0] [1, 0] rfl rfl
    refine region_q hS
      (cF rfl (oM .t) r1 trivial
      (cF rfl (o_callG1 1 (trim_c b n wv _ hJ) Tryd.func83 rfl (by kernel_rfl) (Args.one .t)) r1 r1
      Chain.nil))
      hB ?_
    clear hS; intro a w F hS
    obtain ⟨F, hS⟩ := hS.nm [59, 58, 57, 56, 55, 54, 53, 52, 51, 50, 49, 48, 47, 46, 45, 44, 43, 42, 41, 33, 32, 31, 30, 29, 28, 27, 26, 25, 24, 23, 22, 21, 20, 19, 18, 17, 16, 10, 9, 8, 7, 6, 2, 1, 0] [1, 0] rfl rfl
    rw [midW_trim hlast] at hS
    obtain ⟨F, hS⟩ := hS.peel 1 2 rfl rfl
    obtain ⟨F, hS⟩ := hS.peel 1 3 rfl rfl
    obtain ⟨F, hS⟩ := hS.nm [59, 58, 57, 56, 55, 54, 53, 52, 51, 50, 49, 48, 47, 46, 45, 44, 43, 42, 41, 33, 32, 31, 30, 29, 28, 27, 26, 25, 24, 23, 22, 21, 20, 19, 18, 17, 16, 10, 9, 8, 7, 6, 2, 1, 0] [3, 2, 0] rfl rfl
    refine then_n ?_
    refine region_q hS
      (cF rfl (oM .t) r1 trivial
      (cF rfl (oM .t) r1 trivial
      (Chain.cons (Cert.cond rfl rfl (fun h => o_move .t (by rfl))) r2 trivial
      (Chain.cons (Cert.cond rfl rfl (fun h => o_nilCheck 2 (.w h .is) (by rfl))) r2 r1
      (Chain.cons (Cert.cond rfl rfl (fun h => o_fieldAddr (off := 1) 2 (.w h .adr) (by kernel_rfl) (by rfl))) r2 r1
      (Chain.cons (Cert.cond rfl rfl (fun h => o_load (ag := false) (sz := 1) 2 (.w h .adr) (by kernel_rfl) (by kernel_rfl) (by kernel_rfl) (by rfl))) r2 r1
      (Chain.cons (Cert.cond rfl rfl (fun h => o_move .t (by rfl))) r2 trivial
      (Chain.cons (Cert.cond rfl rfl (fun h => o_indexAddr_row (sz := 1) 3 (.mk Tryd.underlying102 (by kernel_rfl)) (.w h .is) (.w h) (by omega) (by omega) (by rfl))) r3 r1
      (Chain.cons (Cert.cond rfl rfl (fun h => o_load_row0 (ag := false) (sz' := 1) (sz := 1) 3 (.w h) (by intro x; rfl) (by rw [Int.toNat_natCast]; omega) (by kernel_rfl) (by kernel_rfl) (by kernel_rfl))) r2 r1
      (Chain.cons (Cert.cond rfl rfl (fun h => o_move .t (by rfl))) r2 trivial
      (Chain.cons (Cert.cond rfl rfl (fun h => o_neq (.w h) (.w h))) r3 trivial
      (cF rfl (o_or2 .t .t) r2 trivial
      (cF rfl (oN .t) r1 trivial
      Chain.nil)))))))))))))
      hB ?_
    clear hS; intro a w F hS
    obtain ⟨F, hS⟩ := hS.nm [72, 71, 70, 69, 68, 67, 66, 65, 64, 63, 62, 61, 59, 58, 57, 56, 55, 54, 53, 52, 51, 50, 49, 48, 47, 46, 45, 44, 43, 42, 41, 33, 32, 31, 30, 29, 28, 27, 26, 25, 24, 23, 22, 21, 20, 19, 18, 17, 16, 10, 9, 8, 7, 6, 2, 1, 0] [3, 2, 0] rfl rfl
    try dsimp only [List.map, xD, xE, xT, xU, ldSF] at hS
    try simp only [Int.toNat_natCast] at hS
    simp only [midW_nth1 hil] at hS
    refine block_n (then_n ?_)
    refine region_q hS
      (cF rfl (o_add .t (.ci (by kernel_rfl))) r1 trivial
      (cF rfl (oM .t) r1 trivial
      Chain.nil))
      hB ?_
    clear hS; intro a w F hS
    obtain ⟨F, hS⟩ := hS.nm [73, 72, 71, 70, 69, 68, 67, 66, 65, 64, 63, 62, 61, 59, 58, 57, 56, 55, 54, 53, 52, 51, 50, 49, 48, 47, 46, 45, 44, 43, 42, 41, 33, 32, 31, 30, 29, 28, 27, 26, 25, 24, 23, 22, 21, 20, 19, 18, 17, 16, 10, 9, 8, 7, 6, 2, 1, 0] [3, 2, 0] rfl rfl
    refine then_n ?_
    replace hS := hS.ent (i := 18) (s' := .pv (.int .i64 ((i + 1 : Nat) : Int))) rfl (.int (wrap_succ (by omega)))
    replace hS := hS.ent (i := 7) (s' := .pv (.bool (!decide (ws.take (i + 1) = (eachW f n ws us).take (i + 1))))) rfl (.bool (chg_step (eachW_len f n ws us) hil))
    obtain ⟨F, hS⟩ := hS.nm [17, 16, 6, 2, 1, 0, 7, 18] [2, 0, 3] rfl rfl
    exact ⟨(i + 1), F, ⟨by omega, trivial⟩, hS, by omega⟩
   have hnl : i + 1 ≠ ws.length := by
     have h' := hc4
     simp only [List.length_set, hml, decide_eq_false_iff_not] at h'
     rw [wrap_i64 (by omega)] at h'
     omega
   rw [midW_set hil hnl] at hS
   refine wp_skip (then_n ?_)
   refine region_q hS
     (cF rfl (oM .t) r1 trivial
     (cF rfl (oM .t) r1 trivial
     (Chain.cons (Cert.cond rfl rfl (fun h => o_move .t (by rfl))) r2 trivial
     (Chain.cons (Cert.cond rfl rfl (fun h => o_nilCheck 2 (.w h .is) (by rfl))) r2 r1
     (Chain.cons (Cert.cond rfl rfl (fun h => o_fieldAddr (off := 1) 2 (.w h .adr) (by kernel_rfl) (by rfl))) r2 r1
     (Chain.cons (Cert.cond rfl rfl (fun h => o_load (ag := false) (sz := 1) 2 (.w h .adr) (by kernel_rfl) (by kernel_rfl) (by kernel_rfl) (by rfl))) r2 r1
     (Chain.cons (Cert.cond rfl rfl (fun h => o_move .t (by rfl))) r2 trivial
     (Chain.cons (Cert.cond rfl rfl (fun h => o_indexAddr_row (sz := 1) 3 (.mk Tryd.underlying102 (by kernel_rfl)) (.w h .is) (.w h) (by omega) (by omega) (by rfl))) r3 r1
     (Chain.cons (Cert.cond rfl rfl (fun h => o_load_row0 (ag := false) (sz' := 1) (sz := 1) 3 (.w h) (by intro x; rfl) (by rw [Int.toNat_natCast]; omega) (by kernel_rfl) (by kernel_rfl) (by kernel_rfl))) r2 r1
     (Chain.cons (Cert.cond rfl rfl (fun h => o_move .t (by rfl))) r2 trivial
     (Chain.cons (Cert.cond rfl rfl (fun h => o_neq (.w h) (.w h))) r3 trivial
     (cF rfl (o_or2 .t .t) r2 trivial
     (cF rfl (oN .t) r1 trivial
     Chain.nil)))))))))))))
     hB ?_
   clear hS; intro a w F hS
   obtain ⟨F, hS⟩ := hS.nm [72, 71, 70, 69, 68, 67, 66, 65, 64, 63, 62, 61, 58, 57, 56, 55, 54, 53, 52, 51, 50, 49, 48, 47, 46, 45, 44, 43, 42, 41, 33, 32, 31, 30, 29, 28, 27, 26, 25, 24, 23, 22, 21, 20, 19, 18, 17, 16, 10, 9, 8, 7, 6, 2, 1, 0] [3, 2, 0] rfl rfl
   try dsimp only [List.map, xD, xE, xT, xU, ldSF] at hS
   try simp only [Int.toNat_natCast] at hS
   simp only [midW_nth1 hil] at hS
   refine block_n (then_n ?_)
   refine region_q hS
     (cF rfl (o_add .t (.ci (by kernel_rfl))) r1 trivial
     (cF rfl (oM .t) r1 trivial
     Chain.nil))
     hB ?_
   clear hS; intro a w F hS
   obtain ⟨F, hS⟩ := hS.nm [73, 72, 71, 70, 69, 68, 67, 66, 65, 64, 63, 62, 61, 58, 57, 56, 55, 54, 53, 52, 51, 50, 49, 48, 47, 46, 45, 44, 43, 42, 41, 33, 32, 31, 30, 29, 28, 27, 26, 25, 24, 23, 22, 21, 20, 19, 18, 17, 16, 10, 9, 8, 7, 6, 2, 1, 0] [3, 2, 0] rfl rfl
   refine then_n ?_
   replace hS := hS.ent (i := 18) (s' := .pv (.int .i64 ((i + 1 : Nat) : Int))) rfl (.int (wrap_succ (by omega)))
   replace hS := hS.ent (i := 7) (s' := .pv (.bool (!decide (ws.take (i + 1) = (eachW f n ws us).take (i + 1))))) rfl (.bool (chg_step (eachW_len f n ws us) hil))
   obtain ⟨F, hS⟩ := hS.nm [17, 16, 6, 2, 1, 0, 7, 18] [2, 0, 3] rfl rfl
   exact ⟨(i + 1), F, ⟨by omega, trivial⟩, hS, by omega⟩
  have hil : i = ws.length := by simp at hc1; omega
  rw [hil, List.take_length, List.take_of_length_le (Nat.le_of_eq (eachW_len f n ws us)), midW_end] at hS
  have hg : (!decide (ws = (eachW f n ws us))) = !decide (ws = (eachW f n ws us)) := rfl
  refine wp_exit (then_x (then_x (block_x (then_n (wp_seq ?_)))))
  refine region_q hS
    (cF rfl (oM .t) r1 trivial
    (cF rfl (oN .t) r1 trivial
    Chain.nil))
    hB ?_
  clear hS; intro a w F hS
  obtain ⟨F, hS⟩ := hS.nm [6] [3, 2, 0] rfl rfl
  refine then_n (wp_ret ?_)
  have hS := hS.fresh 1 rfl
  obtain ⟨F, hS⟩ := hS.push 1 3 rfl rfl rfl (by kernel_rfl)
  obtain ⟨F, hS⟩ := hS.push 1 2 rfl rfl rfl (by kernel_rfl)
  have hS := hS.turn 1 rfl (r' := RS.hp (bitsH (.pointer (some ⟨b, 0, none⟩)) n (eachW f n ws us))) (fun _ _ _ _ h => ⟨_, (eachW_ok hf hI hu), h⟩)
  refine ret_G1 hG hS rfl (.tmp rfl .nil) (.one (.bool hg)) rfl

theorem each_self {g : FuncId} {f : Int → Int → Int} {gb : Bool → Bool → Bool} (hf : BitOp f gb) {fn : Func} (hfn : Tryd.prog.funcs[g]? = some fn) (hbd : fn.body.isSome = true) (hnm : (fn.name == "runtime.NumGoroutine") = false) (hc : ∀ p q, FnP Tryd.prog g [.int .u64 p, .int .u64 q] (.int .u64 (f p q))) (b n : Nat) (ws : List Int) : FnG Tryd.prog 69 1 [.is (.pointer (some ⟨b, 0, none⟩)), .is (.pointer (some ⟨b, 0, none⟩)), .is (.func (.func g) #[] #[])] [bitsH (.pointer (some ⟨b, 0, none⟩)) n ws] (.bool (!decide (ws = (eachW f n ws ws)))) (fun _ => [bitsH (.pointer (some ⟨b, 0, none⟩)) n (eachW f n ws ws)]) := by
  refine FnG.mk Tryd.func69 rfl Tryd.ntmps69 rfl (by kernel_rfl) ?_
  intro B F0 a w F hB hG hS
  obtain ⟨wv, hS⟩ := hS.open_ex 1 rfl
  obtain ⟨hI, hS⟩ := hS.open_and 1 rfl
  obtain ⟨F, hS⟩ := hS.peel 1 2 rfl rfl
  obtain ⟨F, hS⟩ := hS.peel 1 3 rfl rfl
  obtain ⟨F, hS⟩ := hS.nm [2, 1, 0] [3, 2, 0] rfl rfl
  have hhi := hI.hi
  have hlw := hI.len
  have hll : ws.length ≤ 9223372036854775807 := by omega
  refine wp_seq ?_
  refine region_q hS
    (cF rfl (oN .cb) trivial trivial
    Chain.nil)
    hB ?_
  clear hS; intro a w F hS
  obtain ⟨F, hS⟩ := hS.nm [6, 2, 1, 0] [3, 2, 0] rfl rfl
  refine then_n (wp_seq (wp_seq ?_))
  refine region_q hS
    (cF rfl (oM .t) r1 trivial
    (cF rfl (o_nil_eql _ Tryd.underlying72 rfl .t) r1 trivial
    Chain.nil))
    hB ?_
  clear hS; intro a w F hS
  obtain ⟨F, hS⟩ := hS.nm [12, 6, 2, 1, 0] [3, 2, 0] rfl rfl
  refine then_n ?_
  refine cond_b hS rfl (fun hc0 => ?_) (fun hc0 => ?_)
  ·skip
   simp at hc0
  refine wp_skip (then_n (wp_seq ?_))
  refine region_q hS
    (cF rfl (oN .cb) trivial trivial
    Chain.nil)
    hB ?_
  clear hS; intro a w F hS
  obtain ⟨F, hS⟩ := hS.nm [7, 6, 2, 1, 0] [3, 2, 0] rfl rfl
  refine then_n (wp_seq (wp_seq ?_))
  refine region_q hS
    (cF rfl (oM .t) r1 trivial
    (cF rfl (o_nilCheck 2 .is (by rfl)) r1 r1
    (cF rfl (oF 1 2 .adr) r1 r1
    (cF rfl (oL false 1 2 .adr) r1 r1
    (cF rfl (o_len_row 3 Tryd.underlying102 .is) r1 r1
    (cF rfl (oM (.ci (by kernel_rfl))) trivial trivial
    Chain.nil))))))
    hB ?_
  clear hS; intro a w F hS
  obtain ⟨F, hS⟩ := hS.nm [18, 17, 16, 7, 6, 2, 1, 0] [3, 2, 0] rfl rfl
  try dsimp only [List.map, xD, xE, xT, xU, ldSF] at hS
  refine then_n (wp_block ?_)
  replace hS := hS.ent (i := 7) (s' := .pv (.bool (!decide (ws.take 0 = (eachW f n ws ws).take 0)))) rfl (.bool (by simp))
  replace hS := hS.turn 3 rfl (r' := .ob (.val wv) (rowH 107 1 rU64 (midW f n ws ws 0))) (by rw [midW_zero]; exact fun _ _ _ _ h => h)
  refine loop_keep (σ := (Nat)) [0, 1, 2, 6, 16, 17] [0, 2] (fun s => [(18, .pv (.int .i64 (s : Int))), (7, .pv (.bool (!decide (ws.take s = (eachW f n ws ws).take s))))]) (fun s => [(3, .ob (.val wv) (rowH 107 1 rU64 (midW f n ws ws s)))]) (fun s => s ≤ ws.length ∧ (True)) (fun s => ws.length - s) (0) hS ⟨rfl, rfl, rfl, rfl, rfl, rfl, rfl, rfl, trivial⟩ ⟨rfl, rfl, rfl, trivial⟩ ⟨Nat.zero_le _, trivial⟩ ?_
  clear hS; intro i a w F hC hS
  try dsimp only at hC
  obtain ⟨F, hS⟩ := hS.nm [18, 17, 16, 7, 6, 2, 1, 0] [3, 2, 0] rfl rfl
  try dsimp only at hS
  obtain ⟨hi, hq⟩ := hC
  refine wp_seq ?_
  refine region_q hS
    (cF rfl (o_lss .t .t) r2 trivial
    Chain.nil)
    hB ?_
  clear hS; intro a w F hS
  obtain ⟨F, hS⟩ := hS.nm [19, 18, 17, 16, 7, 6, 2, 1, 0] [3, 2, 0] rfl rfl
  refine then_n (wp_seq ?_)
  refine cond_b hS rfl (fun hc1 => ?_) (fun hc1 => ?_)
  ·skip
   have hil : i < ws.length := by simp at hc1; omega
   have hml := midW_len (f := f) (n := n) (ws := ws) (us := ws) (i := i) (by omega)
   have hml1 := midW_len (f := f) (n := n) (ws := ws) (us := ws) (i := i + 1) (by omega)
   refine wp_skip (then_n (wp_seq (wp_block (wp_seq ?_))))
   refine region_q hS
     (cF rfl (oM .t) r1 trivial
     (cF rfl (o_indexAddr_row (sz := 1) 3 (.mk Tryd.underlying102 (by kernel_rfl)) .is .t (by omega) (by omega) (by rfl)) r2 r1
     (cF rfl (o_load_row0 (ag := false) (sz' := 1) (sz := 1) 3 .t (by intro x; rfl) (by rw [Int.toNat_natCast]; omega) (by kernel_rfl) (by kernel_rfl) (by kernel_rfl)) r1 r1
     (cF rfl (oN .t) r1 trivial
     (cF rfl (oN .t) r1 trivial
     Chain.nil)))))
     hB ?_
   clear hS; intro a w F hS
   obtain ⟨F, hS⟩ := hS.nm [22, 21, 20, 19, 18, 17, 16, 9, 8, 7, 6, 2, 1, 0] [3, 2, 0] rfl rfl
   try dsimp only [List.map, xD, xE, xT, xU, ldSF] at hS
   try simp only [Int.toNat_natCast] at hS
   rw [midW_nth hil] at hS
   refine then_n (wp_seq ?_)
   refine region_q hS
     (cF rfl (oN (.ci (by kernel_rfl))) trivial trivial
     Chain.nil)
     hB ?_
   clear hS; intro a w F hS
   obtain ⟨F, hS⟩ := hS.nm [22, 21, 20, 19, 18, 17, 16, 10, 9, 8, 7, 6, 2, 1, 0] [3, 2, 0] rfl rfl
   refine then_n (wp_seq (wp_seq ?_))
   refine region_q hS
     (cF rfl (oM .t) r1 trivial
     (cF rfl (o_nil_neq _ Tryd.underlying72 rfl .t) r1 trivial
     (cF rfl (oM .t) r1 trivial
     (Chain.cons (Cert.cond rfl rfl (fun h => o_move .t (by rfl))) r2 trivial
     (Chain.cons (Cert.cond rfl rfl (fun h => o_move .t (by rfl))) r2 trivial
     (Chain.cons (Cert.cond rfl rfl (fun h => o_nilCheck 2 (.w h .is) (by rfl))) r2 r1
     (Chain.cons (Cert.cond rfl rfl (fun h => o_fieldAddr (off := 1) 2 (.w h .adr) (by kernel_rfl) (by rfl))) r2 r1
     (Chain.cons (Cert.cond rfl rfl (fun h => o_load (ag := false) (sz := 1) 2 (.w h .adr) (by kernel_rfl) (by kernel_rfl) (by kernel_rfl) (by rfl))) r2 r1
     (Chain.cons (Cert.cond rfl rfl (fun h => o_len_row 3 Tryd.underlying102 (.w h .is))) r2 r1
     (Chain.cons (Cert.cond rfl rfl (fun h => o_lss (.w h) (.w h))) r3 trivial
     (cF rfl (o_and2 .t .t) r2 trivial
     Chain.nil)))))))))))
     hB ?_
   clear hS; intro a w F hS
   obtain ⟨F, hS⟩ := hS.nm [33, 32, 31, 30, 29, 28, 27, 26, 25, 24, 23, 22, 21, 20, 19, 18, 17, 16, 10, 9, 8, 7, 6, 2, 1, 0] [3, 2, 0] rfl rfl
   try dsimp only [List.map, xD, xE, xT, xU, ldSF] at hS
   refine then_n ?_
   refine cond_b hS rfl (fun hc2 => ?_) (fun hc2 => ?_)
   ·skip
    refine region_q hS
      (cF rfl (oM .t) r1 trivial
      (cF rfl (o_nilCheck 2 .is (by rfl)) r1 r1
      (cF rfl (oF 1 2 .adr) r1 r1
      (cF rfl (oL false 1 2 .adr) r1 r1
      (cF rfl (oM .t) r1 trivial
      (cF rfl (o_indexAddr_row (sz := 1) 3 (.mk Tryd.underlying102 (by kernel_rfl)) .is .t (by omega) (by omega) (by rfl)) r2 r1
      (cF rfl (o_load_row0 (ag := false) (sz' := 1) (sz := 1) 3 .t (by intro x; rfl) (by rw [Int.toNat_natCast]; omega) (by kernel_rfl) (by kernel_rfl) (by kernel_rfl)) r1 r1
      (cF rfl (oN .t) r1 trivial
      Chain.nil))))))))
      hB ?_
    clear hS; intro a w F hS
    obtain ⟨F, hS⟩ := hS.nm [40, 39, 38, 37, 36, 35, 34, 33, 32, 31, 30, 29, 28, 27, 26, 25, 24, 23, 22, 21, 20, 19, 18, 17, 16, 10, 9, 8, 7, 6, 2, 1, 0] [3, 2, 0] rfl rfl
    try dsimp only [List.map, xD, xE, xT, xU, ldSF] at hS
    try simp only [Int.toNat_natCast] at hS
    rw [midW_nth hil] at hS
    refine then_n (wp_seq ?_)
    refine region_any (by kernel_rfl) hS (by kernel_rfl)
      (cF rfl (oM .t) r1 trivial
      (cF rfl (o_nilCheck 2 .is (by rfl)) r1 r1
      (cF rfl (oF 1 2 .adr) r1 r1
      (cF rfl (oL false 1 2 .adr) r1 r1
      (cF rfl (oM .t) r1 trivial
      (cF rfl (oM .t) r1 trivial
      (cF rfl (oM .t) r1 trivial
      (cF rfl (oM .t) r1 trivial
      (cF rfl (o_callPV .t (hc _ _) hfn hbd hnm (Args.two .t .t)) r3 trivial
      (cF rfl (o_indexAddr_row (sz := 1) 3 (.mk Tryd.underlying102 (by kernel_rfl)) .is .t (by omega) (by omega) (by rfl)) r2 r1
      (cF rfl (o_store_row1 (R := rU64) (sz := 1) (v := _) 3 .t (by intro x; rfl) (by rw [Int.toNat_natCast]; omega) .t rfl one_int (by kernel_rfl)) r2 r1
      Chain.nil)))))))))))
      (by kernel_rfl) (by rw [hB]; kernel_rfl) ?_
    clear hS; intro a w F hS
    obtain ⟨F, hS⟩ := hS.nm [50, 49, 48, 47, 46, 45, 44, 43, 42, 41, 40, 39, 38, 37, 36, 35, 34, 33, 32, 31, 30, 29, 28, 27, 26, 25, 24, 23, 22, 21, 20, 19, 18, 17, 16, 10, 9, 8, 7, 6, 2, 1, 0] [3, 2, 0] rfl rfl
    try dsimp only [List.map, stCells, xL, xM, Nat.reduceAdd, xD, xE, xT, xU, xC, xN, zCF, ldSF] at hS
    try simp only [Int.toNat_natCast] at hS
    refine then_n (wp_seq (wp_seq ?_))
    refine region_q hS
      (cF rfl (oM .t) r1 trivial
      (cF rfl (oM .t) r1 trivial
      (cF rfl (o_nilCheck 2 .is (by rfl)) r1 r1
      (cF rfl (oF 1 2 .adr) r1 r1
      (cF rfl (oL false 1 2 .adr) r1 r1
      (cF rfl (o_len_row 3 Tryd.underlying102 .is) r1 r1
      (cF rfl (o_sub .t (.ci (by kernel_rfl))) r1 trivial
      (cF rfl (o_eql .t .t) r2 trivial
      Chain.nil))))))))
      hB ?_
    clear hS; intro a w F hS
    obtain ⟨F, hS⟩ := hS.nm [58, 57, 56, 55, 54, 53, 52, 51, 50, 49, 48, 47, 46, 45, 44, 43, 42, 41, 40, 39, 38, 37, 36, 35, 34, 33, 32, 31, 30, 29, 28, 27, 26, 25, 24, 23, 22, 21, 20, 19, 18, 17, 16, 10, 9, 8, 7, 6, 2, 1, 0] [3, 2, 0] rfl rfl
    try dsimp only [List.map, xD, xE, xT, xU, ldSF] at hS
    refine then_n ?_
    refine cond_b hS rfl (fun hc3 => ?_) (fun hc3 => ?_)
    ·skip
     have hlast : i + 1 = ws.length := by
       have h' := hc3
       simp only [List.length_set, hml, decide_eq_true_eq] at h'
       rw [wrap_i64 (by omega)] at h'
       omega
     obtain ⟨F, hS⟩ := hS.nm [58, 57, 56, 55, 54, 53, 52, 51, 50, 49, 48, 47, 46, 45, 44, 43, 42, 41, 40, 39, 38, 37, 36, 35, 34, 33, 32, 31, 30, 29, 28, 27, 26, 25, 24, 23, 22, 21, 20, 19, 18, 17, 16, 10, 9, 8, 7, 6, 2, 1, 0] [3, 2, 0] rfl rfl
     have hS := hS.fresh 1 rfl
     obtain ⟨F, hS⟩ := hS.push 1 3 rfl rfl rfl (by kernel_rfl)
     obtain ⟨F, hS⟩ := hS.push 1 2 rfl rfl rfl (by kernel_rfl)
     have hJ : RowOk n ((midW f n ws ws i).set i (f (Go.Gm.nth ws i) (Go.Gm.nth ws i))) := (midW_ok hf hI hI.wd (by omega)).setN i (hf.rg _ _ (hI.wd i) (hI.wd i))
     obtain ⟨F, hS⟩ := hS.nm [58, 57, 56, 55, 54, 53, 52, 51, 50, 49, 48, 47, 46, 45, 44, 43, 42, 41, 40, 39, 38, 37, 36, 35, 34, 33, 32, 31, 30, 29, 28, 27, 26, 25, 24, 23, 22, 21, 20, 19, 18, 17, 16, 10, 9, 8, 7, 6, 2, 1, 0] [1, 0] rfl rfl
     refine region_q hS
       (cF rfl (oM .t) r1 trivial
       (cF rfl (o_callG1 1 (trim_c b n wv _ hJ) Tryd.func83 rfl (by kernel_rfl) (Args.one .t)) r1 r1
       Chain.nil))
       hB ?_
     clear hS; intro a w F hS
     obtain ⟨F, hS⟩ := hS.nm [59, 58, 57, 56, 55, 54, 53, 52, 51, 50, 49, 48, 47, 46, 45, 44, 43, 42, 41, 40, 39, 38, 37, 36, 35, 34, 33, 32, 31, 30, 29, 28, 27, 26, 25, 24, 23, 22, 21, 20, 19, 18, 17, 16, 10, 9, 8, 7, 6, 2, 1, 0] [1, 0] rfl rfl
     rw [midW_trim hlast] at hS
     obtain ⟨F, hS⟩ := hS.peel 1 2 rfl rfl
     obtain ⟨F, hS⟩ := hS.peel 1 3 rfl rfl
     obtain ⟨F, hS⟩ := hS.nm [59, 58, 57, 56, 55, 54, 53, 52, 51, 50, 49, 48, 47, 46, 45, 44, 43, 42, 41, 40, 39, 38, 37, 36, 35, 34, 33, 32, 31, 30, 29, 28, 27, 26, 25, 24, 23, 22, 21, 20, 19, 18, 17, 16, 10, 9, 8, 7, 6, 2, 1, 0] [3, 2, 0] rfl rfl
     refine then_n ?_
     refine region_q hS
       (cF rfl (oM .t) r1 trivial
       (cF rfl (oM .t) r1 trivial
       (Chain.cons (Cert.cond rfl rfl (fun h => o_move .t (by rfl))) r2 trivial
       (Chain.cons (Cert.cond rfl rfl (fun h => o_nilCheck 2 (.w h .is) (by rfl))) r2 r1
       (Chain.cons (Cert.cond rfl rfl (fun h => o_fieldAddr (off := 1) 2 (.w h .adr) (by kernel_rfl) (by rfl))) r2 r1
       (Chain.cons (Cert.cond rfl rfl (fun h => o_load (ag := false) (sz := 1) 2 (.w h .adr) (by kernel_rfl) (by kernel_rfl) (by kernel_rfl) (by rfl))) r2 r1
       (Chain.cons (Cert.cond rfl rfl (fun h => o_move .t (by rfl))) r2 trivial
       (Chain.cons (Cert.cond rfl rfl (fun h => o_indexAddr_row (sz := 1) 3 (.mk Tryd.underlying102 (by kernel_rfl)) (.w h .is) (.w h) (by omega) (by omega) (by rfl))) r3 r1
       (Chain.cons (Cert.cond rfl rfl (fun h => o_load_row0 (ag := false) (sz' := 1) (sz := 1) 3 (.w h) (by intro x; rfl) (by rw [Int.toNat_natCast]; omega) (by kernel_rfl) (by kernel_rfl) (by kernel_rfl))) r2 r1
       (Chain.cons (Cert.cond rfl rfl (fun h => o_move .t (by rfl))) r2 trivial
       (Chain.cons (Cert.cond rfl rfl (fun h => o_neq (.w h) (.w h))) r3 trivial
       (cF rfl (o_or2 .t .t) r2 trivial
       (cF rfl (oN .t) r1 trivial
       Chain.nil)))))))))))))
       hB ?_
     clear hS; intro a w F hS
     obtain ⟨F, hS⟩ := hS.nm [72, 71, 70, 69, 68, 67, 66, 65, 64, 63, 62, 61, 59, 58, 57, 56, 55, 54, 53, 52, 51, 50, 49, 48, 47, 46, 45, 44, 43, 42, 41, 40, 39, 38, 37, 36, 35, 34, 33, 32, 31, 30, 29, 28, 27, 26, 25, 24, 23, 22, 21, 20, 19, 18, 17, 16, 10, 9, 8, 7, 6, 2, 1, 0] [3, 2, 0] rfl rfl
     try dsimp only [List.map, xD, xE, xT, xU, ldSF] at hS
     try simp only [Int.toNat_natCast] at hS
     simp only [midW_nth1 hil] at hS
     refine block_n (then_n ?_)
     refine region_q hS
       (cF rfl (o_add .t (.ci (by kernel_rfl))) r1 trivial
       (cF rfl (oM .t) r1 trivial
       Chain.nil))
       hB ?_
     clear hS; intro a w F hS
     obtain ⟨F, hS⟩ := hS.nm [73, 72, 71, 70, 69, 68, 67, 66, 65, 64, 63, 62, 61, 59, 58, 57, 56, 55, 54, 53, 52, 51, 50, 49, 48, 47, 46, 45, 44, 43, 42, 41, 40, 39, 38, 37, 36, 35, 34, 33, 32, 31, 30, 29, 28, 27, 26, 25, 24, 23, 22, 21, 20, 19, 18, 17, 16, 10, 9, 8, 7, 6, 2, 1, 0] [3, 2, 0] rfl rfl
     refine then_n ?_
     replace hS := hS.ent (i := 18) (s' := .pv (.int .i64 ((i + 1 : Nat) : Int))) rfl (.int (wrap_succ (by omega)))
     replace hS := hS.ent (i := 7) (s' := .pv (.bool (!decide (ws.take (i + 1) = (eachW f n ws ws).take (i + 1))))) rfl (.bool (chg_step (eachW_len f n ws ws) hil))
     obtain ⟨F, hS⟩ := hS.nm [17, 16, 6, 2, 1, 0, 7, 18] [2, 0, 3] rfl rfl
     exact ⟨(i + 1), F, ⟨by omega, trivial⟩, hS, by omega⟩
    have hnl : i + 1 ≠ ws.length := by
      have h' := hc3
      simp only [List.length_set, hml, decide_eq_false_iff_not] at h'
      rw [wrap_i64 (by omega)] at h'
      omega
    rw [midW_set hil hnl] at hS
    refine wp_skip (then_n ?_)
    refine region_q hS
      (cF rfl (oM .t) r1 trivial
      (cF rfl (oM .t) r1 trivial
      (Chain.cons (Cert.cond rfl rfl (fun h => o_move .t (by rfl))) r2 trivial
      (Chain.cons (Cert.cond rfl rfl (fun h => o_nilCheck 2 (.w h .is) (by rfl))) r2 r1
      (Chain.cons (Cert.cond rfl rfl (fun h => o_fieldAddr (off := 1) 2 (.w h .adr) (by kernel_rfl) (by rfl))) r2 r1
      (Chain.cons (Cert.cond rfl rfl (fun h => o_load (ag := false) (sz := 1) 2 (.w h .adr) (by kernel_rfl) (by kernel_rfl) (by kernel_rfl) (by rfl))) r2 r1
      (Chain.cons (Cert.cond rfl rfl (fun h => o_move .t (by rfl))) r2 trivial
      (Chain.cons (Cert.cond rfl rfl (fun h => o_indexAddr_row (sz := 1) 3 (.mk Tryd.underlying102 (by kernel_rfl)) (.w h .is) (.w h) (by omega) (by omega) (by rfl))) r3 r1
      (Chain.cons (Cert.cond rfl rfl (fun h => o_load_row0 (ag := false) (sz' := 1) (sz := 1) 3 (.w h) (by intro x; rfl) (by rw [Int.toNat_natCast]; omega) (by kernel_rfl) (by kernel_rfl) (by kernel_rfl))) r2 r1
      (Chain.cons (Cert.cond rfl rfl (fun h => o_move .t (by rfl))) r2 trivial
      (Chain.cons (Cert.cond rfl rfl (fun h => o_neq (.w h) (.w h))) r3 trivial
      (cF rfl (o_or2 .t .t) r2 trivial
      (cF rfl (oN .t) r1 trivial
      Chain.nil)))))))))))))
      hB ?_
    clear hS; intro a w F hS
    obtain ⟨F, hS⟩ := hS.nm [72, 71, 70, 69, 68, 67, 66, 65, 64, 63, 62, 61, 58, 57, 56, 55, 54, 53, 52, 51, 50, 49, 48, 47, 46, 45, 44, 43, 42, 41, 40, 39, 38, 37, 36, 35, 34, 33, 32, 31, 30, 29, 28, 27, 26, 25, 24, 23, 22, 21, 20, 19, 18, 17, 16, 10, 9, 8, 7, 6, 2, 1, 0] [3, 2, 0] rfl rfl
    try dsimp only [List.map, xD, xE, xT, xU, ldSF] at hS
    try simp only [Int.toNat_natCast] at hS
    simp only [midW_nth1 hil] at hS
    refine block_n (then_n ?_)
    refine region_q hS
      (cF rfl (o_add .t (.ci (by kernel_rfl))) r1 trivial
      (cF rfl (oM .t) r1 trivial
      Chain.nil))
      hB ?_
    clear hS; intro a w F hS
    obtain ⟨F, hS⟩ := hS.nm [73, 72, 71, 70, 69, 68, 67, 66, 65, 64, 63, 62, 61, 58, 57, 56, 55, 54, 53, 52, 51, 50, 49, 48, 47, 46, 45, 44, 43, 42, 41, 40, 39, 38, 37, 36, 35, 34, 33, 32, 31, 30, 29, 28, 27, 26, 25, 24, 23, 22, 21, 20, 19, 18, 17, 16, 10, 9, 8, 7, 6, 2, 1, 0] [3, 2, 0] rfl rfl
    refine then_n ?_
    replace hS := hS.ent (i := 18) (s' := .pv (.int .i64 ((i + 1 : Nat) : Int))) rfl (.int (wrap_succ (by omega)))
    replace hS := hS.ent (i := 7) (s' := .pv (.bool (!decide (ws.take (i + 1) = (eachW f n ws ws).take (i + 1))))) rfl (.bool (chg_step (eachW_len f n ws ws) hil))
    obtain ⟨F, hS⟩ := hS.nm [17, 16, 6, 2, 1, 0, 7, 18] [2, 0, 3] rfl rfl
    exact ⟨(i + 1), F, ⟨by omega, trivial⟩, hS, by omega⟩
   simp at hc2; rw [hml] at hc2; omega
  have hil : i = ws.length := by simp at hc1; omega
  rw [hil, List.take_length, List.take_of_length_le (Nat.le_of_eq (eachW_len f n ws ws)), midW_end] at hS
  have hg : (!decide (ws = (eachW f n ws ws))) = !decide (ws = (eachW f n ws ws)) := rfl
  refine wp_exit (then_x (then_x (block_x (then_n (wp_seq ?_)))))
  refine region_q hS
    (cF rfl (oM .t) r1 trivial
    (cF rfl (oN .t) r1 trivial
    Chain.nil))
    hB ?_
  clear hS; intro a w F hS
  obtain ⟨F, hS⟩ := hS.nm [6] [3, 2, 0] rfl rfl
  refine then_n (wp_ret ?_)
  have hS := hS.fresh 1 rfl
  obtain ⟨F, hS⟩ := hS.push 1 3 rfl rfl rfl (by kernel_rfl)
  obtain ⟨F, hS⟩ := hS.push 1 2 rfl rfl rfl (by kernel_rfl)
  have hS := hS.turn 1 rfl (r' := RS.hp (bitsH (.pointer (some ⟨b, 0, none⟩)) n (eachW f n ws ws))) (fun _ _ _ _ h => ⟨_, (eachW_ok hf hI hI.wd), h⟩)
  refine ret_G1 hG hS rfl (.tmp rfl .nil) (.one (.bool hg)) rfl

end Go.Proofs.YtpahapjcdldodaaDoor
