/- Move. No condition beyond those that each theorem says. -/
import Derived.Test.YtcfgcpcakdknkaaGreatOr5
namespace Go.Proofs.YtcfgcpcakdknkaaGreat
open Go Go.Gm
set_option linter.unusedVariables false
set_option linter.unusedSimpArgs false
set_option maxHeartbeats 4000000
set_option maxRecDepth 8000

theorem moveO_len (l : List Int) (tx place : Int) : (moveO l tx place).1.length ≤ l.length := by
  unfold moveO
  split
  · simp
  · split
    · simp
    · rename_i h1 h2
      have hr := idxL_range tx l
      have h3 : (l.eraseIdx (idxL tx l).toNat).length = l.length - 1 := by rw [List.length_eraseIdx, if_pos (by omega)]
      show (insL _ _ _).length ≤ _
      unfold insL
      split
      · rw [List.length_append, List.length_cons, List.length_take, List.length_drop]; omega
      · omega
theorem move11_c (l : List Int) (tx place : Int) (hl : l.length ≤ 1000000) : FnP Tryz.prog 96 [.sl rInt l, .int .i64 tx, .int .i64 place] (.tup [.sl rInt (moveO l tx place).1, .int .i64 (moveO l tx place).2]) := by
  refine FnP.mk Tryz.func96 rfl Tryz.ntmps96 rfl ?_
  intro B a w F hB hfr hS
  have hll := Sat.lenSl hS (i := 0) rfl
  have hxr := idxL_range tx l
  have hxw : IntKind.wrap .i64 (idxL tx l + 1) = idxL tx l + 1 := wrap_i64 (by omega)
  refine wp_seq ?_
  refine region_z hS (qf (oN (.c rfl)) trivial qz (qf (oN qi) trivial qz qZ)) hB [7, 6, 2, 1, 0] [0] rfl rfl ?_
  clear hS; intro a w F hS
  refine then_n (wp_seq ?_)
  refine region_z hS (qM rfl rfl (qM rfl rfl (qf (oP (index07_c l tx) Tryz.func134 (Args.two .t .t)) r2 qz (qN rfl rfl qZ)))) hB [8, 7, 6, 2, 1, 0] [0] rfl rfl ?_
  clear hS; intro a w F hS
  refine then_n (wp_seq (wp_seq ?_))
  refine region_z hS (qM rfl rfl (qf (o_lss .t qi) r1 qz qZ)) hB [15, 8, 7, 6, 2, 1, 0] [0] rfl rfl ?_
  clear hS; intro a w F hS
  refine then_n ?_
  refine cond_b hS rfl (fun hc0 => ?_) (fun hc0 => ?_)
  ·skip
   have hix : idxL tx l < 0 := by simpa using hc0
   have hm : moveO l tx place = ([], 3) := if_pos hix
   refine wp_seq ?_
   refine region_z hS (qf (oN (.c rfl)) trivial qz (qf (oN qi) trivial qz qZ)) hB [8, 7, 6, 2, 1, 0] [0] rfl rfl ?_
   clear hS; intro a w F hS
   refine then_n (wp_ret (then_r ?_))
   refine ret_P hfr hS rfl (.tmp rfl (.tmp rfl .nil)) (.two (.trans .nilSl (.sl (by first | (rw [hm]; done) | exact hm1))) (.int (by first | (rw [hm]; done) | exact hm2)))
  have hix : 0 ≤ idxL tx l := by simp at hc0; omega
  refine wp_skip (then_n (wp_seq (wp_seq ?_)))
  refine region_z hS (qM rfl rfl (qM rfl rfl (qf (oP (there07_c l place) Tryz.func135 (Args.two .t .t)) r2 qz (qf (o_not .t) r1 qz qZ)))) hB [19, 8, 7, 6, 2, 1, 0] [0] rfl rfl ?_
  clear hS; intro a w F hS
  refine then_n ?_
  refine cond_b hS rfl (fun hc1 => ?_) (fun hc1 => ?_)
  ·skip
   have hpl : ¬ (0 ≤ place ∧ place < l.length) := by simp at hc1; omega
   have hm : moveO l tx place = ([], 1) := (if_neg (by omega)).trans (if_pos hpl)
   refine wp_seq ?_
   refine region_z hS (qf (oN (.c rfl)) trivial qz (qf (oN qi) trivial qz qZ)) hB [8, 7, 6, 2, 1, 0] [0] rfl rfl ?_
   clear hS; intro a w F hS
   refine then_n (wp_ret (then_r ?_))
   refine ret_P hfr hS rfl (.tmp rfl (.tmp rfl .nil)) (.two (.trans .nilSl (.sl (by first | (rw [hm]; done) | exact hm1))) (.int (by first | (rw [hm]; done) | exact hm2)))
  have hpl : 0 ≤ place ∧ place < l.length := by simp at hc1; omega
  have hm : moveO l tx place = (insL (l.eraseIdx (idxL tx l).toNat) place tx, 0) := (if_neg (by omega)).trans (if_neg (by simp; omega))
  refine wp_skip (then_n (wp_seq ?_))
  refine region_z hS (qM rfl rfl (qM rfl rfl (qf (oP (del07_c l (idxL tx l) hl (by omega)) Tryz.func137 (Args.two .t .t)) r2 qz (qM rfl rfl (qM rfl rfl (qf (oP (ins07_c (l.eraseIdx (idxL tx l).toNat) place tx (by rw [List.length_eraseIdx]; split <;> omega)) Tryz.func136 (Args.three .t .t .t)) r3 qz (qM rfl rfl (qf (o_extract .t rfl) r1 qz (qf (o_extract .t rfl) r1 qz (qN rfl rfl (qN rfl rfl qZ))))))))))) hB [9, 7, 6] [0] rfl rfl ?_
  clear hS; intro a w F hS
  refine then_n (wp_seq ?_)
  refine region_z hS (qM rfl rfl (qN rfl rfl (qf (oN qi) trivial qz qZ))) hB [7, 6] [0] rfl rfl ?_
  clear hS; intro a w F hS
  refine then_n (wp_ret ?_)
  refine ret_P hfr hS rfl (.tmp rfl (.tmp rfl .nil)) (.two (.sl (by first | (rw [hm]; done) | exact hm1)) (.int (by first | (rw [hm]; done) | exact hm2)))

end Go.Proofs.YtcfgcpcakdknkaaGreat
