/- Sequences: all, closures, change. No condition beyond those that each theorem says. -/
import Derived.Test.YtdfpljecogijaaaSq1
import Derived.Test.YtdfpljecogijaaaAv7
namespace Go.Proofs.Ytdfpljecogijaaa
open Go Go.Gm
set_option linter.unusedVariables false
set_option linter.unusedSimpArgs false
set_option maxHeartbeats 4000000
set_option maxRecDepth 8000


theorem sall_s (b : Nat) (o : Option Nat) (root why room : Int) (q : List Cell) (n : Nat) (ih : ∀ (q : List Cell) (why : Int) (l : List Int), l.length < n → FnG Try.prog 67 1 [.is (.pointer (some ⟨b, 0, none⟩)), .sl rInt l] [bldH 118 (.pointer (some ⟨b, 0, none⟩)) o root why room q] (.int .i64 (allQ room n q why l).2.2) (fun _ => [bldH 118 (.pointer (some ⟨b, 0, none⟩)) o root (allQ room n q why l).2.1 room (allQ room n q why l).1])) (l : List Int) (hl : l.length < n + 1) : FnG Try.prog 67 1 [.is (.pointer (some ⟨b, 0, none⟩)), .sl rInt l] [bldH 118 (.pointer (some ⟨b, 0, none⟩)) o root why room q] (.int .i64 (allQ room (n + 1) q why l).2.2) (fun _ => [bldH 118 (.pointer (some ⟨b, 0, none⟩)) o root (allQ room (n + 1) q why l).2.1 room (allQ room (n + 1) q why l).1]) := by
  refine FnG.mk Try.func67 rfl Try.ntmps67 rfl (by kernel_rfl) ?_
  intro B F0 a w F hB hG hS
  have hll := Sat.lenSl hS (i := 1) rfl
  refine wp_seq ?_
  refine region_seq hS (by kernel_rfl)
    (cF rfl (o_assign (.ci (by kernel_rfl)) (by rfl)) trivial trivial
    Chain.nil)
    (by kernel_rfl) (by rw [hB]; kernel_rfl) ?_
  clear hS; intro a w F hS
  obtain ⟨F, hS⟩ := hS.norm [(0, _), (1, _), (4, _)] [(0, _), (1, _)] r3 r2
  try dsimp only [rCell, rPair] at hS
  refine then_n ?_
  refine wp_seq ?_
  refine wp_seq ?_
  refine region_seq hS (by kernel_rfl)
    (cF rfl (o_move .t (by rfl)) r1 trivial
    (cF rfl (o_len_sl Try.underlying29 .t) r1 trivial
    (cF rfl (o_eql .t (.ci (by kernel_rfl))) r1 trivial
    Chain.nil)))
    (by kernel_rfl) (by rw [hB]; kernel_rfl) ?_
  clear hS; intro a w F hS
  obtain ⟨F, hS⟩ := hS.norm [(0, _), (1, _), (4, _), (9, _)] [(0, _), (1, _)] r4 r2
  try dsimp only [rCell, rPair] at hS
  refine then_n ?_
  refine cond_b hS rfl (fun hc0 => ?_) (fun hc0 => ?_)
  ·skip
   have hz : l = [] := List.eq_nil_of_length_eq_zero (by simp only [decide_eq_true_eq] at hc0; omega)
   have hg : (allQ room (n + 1) q why l) = (q, why, 0) := if_pos hz
   refine wp_seq ?_
   refine region_seq hS (by kernel_rfl)
     (cF rfl (o_assign (.ci (by kernel_rfl)) (by rfl)) trivial trivial
     Chain.nil)
     (by kernel_rfl) (by rw [hB]; kernel_rfl) ?_
   clear hS; intro a w F hS
   obtain ⟨F, hS⟩ := hS.norm [(0, _), (1, _), (4, _)] [(0, _), (1, _)] r3 r2
   try dsimp only [rCell, rPair] at hS
   refine then_n ?_
   refine wp_ret ?_
   refine then_r ?_
   have hS := hS.turn 1 rfl (r' := RS.hp (bldH 118 (.pointer (some ⟨b, 0, none⟩)) o root (allQ room (n + 1) q why l).2.1 room (allQ room (n + 1) q why l).1)) (fun _ _ _ _ h => by rw [hg]; exact h)
   refine ret_G1 hG hS rfl (.tmp rfl .nil) (.one (.int (by first | (rw [hg]; done) | (rw [hg]; rfl)))) rfl
  ·skip
   have hz : ¬ l = [] := by intro hz; rw [hz] at hc0; simp at hc0
   have hp : 0 < l.length := List.length_pos_iff.2 hz
   have hk1 : IntKind.wrap .i64 (((l.length / 2 : Nat) : Int) + 1) = ((l.length / 2 + 1 : Nat) : Int) := by rw [wrap_i64 (by omega)]; omega
   have hg : (allQ room (n + 1) q why l) = (madeS room (allQ room n (allQ room n q why (l.take (l.length / 2))).1 (allQ room n q why (l.take (l.length / 2))).2.1 (l.drop (IntKind.wrap .i64 (((l.length / 2 : Nat) : Int) + 1)).toNat)).1 (allQ room n (allQ room n q why (l.take (l.length / 2))).1 (allQ room n q why (l.take (l.length / 2))).2.1 (l.drop (IntKind.wrap .i64 (((l.length / 2 : Nat) : Int) + 1)).toNat)).2.1 (allQ room n q why (l.take (l.length / 2))).2.2 (allQ room n (allQ room n q why (l.take (l.length / 2))).1 (allQ room n q why (l.take (l.length / 2))).2.1 (l.drop (IntKind.wrap .i64 (((l.length / 2 : Nat) : Int) + 1)).toNat)).2.2 ⟨0, Go.Gm.nth l (l.length / 2)⟩) := by rw [hk1, Int.toNat_natCast]; exact if_neg hz
   refine wp_skip ?_
   refine then_n ?_
   refine wp_seq ?_
   refine region_seq hS (by kernel_rfl)
     (cF rfl (o_move .t (by rfl)) r1 trivial
     (cF rfl (o_len_sl Try.underlying29 .t) r1 trivial
     (cF rfl (o_shr .t (.ci (by kernel_rfl)) (by decide)) r1 trivial
     (cF rfl (o_assign .t (by rfl)) r1 trivial
     Chain.nil))))
     (by kernel_rfl) (by rw [hB]; kernel_rfl) ?_
   clear hS; intro a w F hS
   obtain ⟨F, hS⟩ := hS.norm [(0, _), (1, _), (4, _), (5, _)] [(0, _), (1, _)] r4 r2
   try dsimp only [rCell, rPair] at hS
   rw [shr1] at hS
   refine then_n ?_
   refine wp_seq ?_
   refine region_seq hS (by kernel_rfl)
     (cF rfl (o_move .t (by rfl)) r1 trivial
     (cF rfl (o_move .t (by rfl)) r1 trivial
     (cF rfl (o_move .t (by rfl)) r1 trivial
     (cF rfl (o_slice_hi (sz := 1) (.mk Try.underlying29 (by kernel_rfl)) (by intro x; rfl) .t .t (by omega) (by omega)) r2 trivial
     (cF rfl (o_callG1 1 (ih q why (l.take (l.length / 2)) (by rw [List.length_take]; omega)) Try.func67 rfl (by kernel_rfl) (Args.two .t .t)) r2 r1
     (cF rfl (o_assign .t (by rfl)) r1 trivial
     Chain.nil))))))
     (by kernel_rfl) (by rw [hB]; kernel_rfl) ?_
   clear hS; intro a w F hS
   obtain ⟨F, hS⟩ := hS.norm [(0, _), (1, _), (4, _), (5, _), (6, _)] [(0, _), (1, _)] r5 r2
   try dsimp only [rCell, rPair] at hS
   refine then_n ?_
   refine wp_seq ?_
   refine region_any (by kernel_rfl) hS (by kernel_rfl)
     (cF rfl (o_move .t (by rfl)) r1 trivial
     (cF rfl (o_move .t (by rfl)) r1 trivial
     (cF rfl (o_move .t (by rfl)) r1 trivial
     (cF rfl (o_move .t (by rfl)) r1 trivial
     (cF rfl (o_move .t (by rfl)) r1 trivial
     (cF rfl (o_add .t (.ci (by kernel_rfl))) r1 trivial
     (cF rfl (o_slice_lo (sz := 1) (.mk Try.underlying29 (by kernel_rfl)) (by intro x; rfl) .t .t (by rw [hk1]; omega) (by rw [hk1]; omega)) r2 trivial
     (cF rfl (o_callG1 1 (ih (allQ room n q why (l.take (l.length / 2))).1 (allQ room n q why (l.take (l.length / 2))).2.1 (l.drop (IntKind.wrap .i64 (((l.length / 2 : Nat) : Int) + 1)).toNat) (by rw [List.length_drop, hk1]; omega)) Try.func67 rfl (by kernel_rfl) (Args.two .t .t)) r2 r1
     (cF rfl (o_move .t (by rfl)) r1 trivial
     (cF rfl (o_move .t (by rfl)) r1 trivial
     (cF rfl (o_indexAddr_sl (sz := 1) (.mk Try.underlying29 (by kernel_rfl)) (by intro x; rfl) .t .t (by omega) (by omega)) r2 trivial
     (cF rfl (o_load_ref (ag := false) (sz := 1) .t (by kernel_rfl) (by kernel_rfl) (by kernel_rfl)) r1 trivial
     (cF rfl (o_callG1 1 (smade_c b o root (allQ room n (allQ room n q why (l.take (l.length / 2))).1 (allQ room n q why (l.take (l.length / 2))).2.1 (l.drop (IntKind.wrap .i64 (((l.length / 2 : Nat) : Int) + 1)).toNat)).2.1 room (allQ room n (allQ room n q why (l.take (l.length / 2))).1 (allQ room n q why (l.take (l.length / 2))).2.1 (l.drop (IntKind.wrap .i64 (((l.length / 2 : Nat) : Int) + 1)).toNat)).1 (allQ room n q why (l.take (l.length / 2))).2.2 (allQ room n (allQ room n q why (l.take (l.length / 2))).1 (allQ room n q why (l.take (l.length / 2))).2.1 (l.drop (IntKind.wrap .i64 (((l.length / 2 : Nat) : Int) + 1)).toNat)).2.2 (Go.Gm.nth l (l.length / 2))) Try.func70 rfl (by kernel_rfl) (Args.four .t .t .t .t)) r4 r1
     (cF rfl (o_assign .t (by rfl)) r1 trivial
     Chain.nil))))))))))))))
     (by kernel_rfl) (by rw [hB]; kernel_rfl) ?_
   clear hS; intro a w F hS
   obtain ⟨F, hS⟩ := hS.norm [(4, _)] [(0, _), (1, _)] r1 r2
   try dsimp only [List.map, List.drop_succ_cons, List.drop_zero, List.drop_nil, List.take_succ_cons, List.take_zero, List.take_nil, ldSF, rCell, rPair] at hS
   try simp only [Int.toNat_natCast] at hS
   refine then_n ?_
   refine wp_ret ?_
   have hS := hS.turn 1 rfl (r' := RS.hp (bldH 118 (.pointer (some ⟨b, 0, none⟩)) o root (allQ room (n + 1) q why l).2.1 room (allQ room (n + 1) q why l).1)) (fun _ _ _ _ h => by rw [hg]; exact h)
   refine ret_G1 hG hS rfl (.tmp rfl .nil) (.one (.int (by first | (rw [hg]; done) | (rw [hg]; rfl)))) rfl

theorem sall_c (b : Nat) (o : Option Nat) (root room : Int) : ∀ (n : Nat) (q : List Cell) (why : Int) (l : List Int), l.length < n → FnG Try.prog 67 1 [.is (.pointer (some ⟨b, 0, none⟩)), .sl rInt l] [bldH 118 (.pointer (some ⟨b, 0, none⟩)) o root why room q] (.int .i64 (allQ room n q why l).2.2) (fun _ => [bldH 118 (.pointer (some ⟨b, 0, none⟩)) o root (allQ room n q why l).2.1 room (allQ room n q why l).1]) := fun n => by
  induction n with
  | zero => intro q why l h; omega
  | succ n ih => intro q why l h; exact sall_s b o root why room q n ih l h

theorem sIns1_c (b : Nat) (o : Option Nat) (root room : Int) (q : List Cell) (x : Int) (t : Tree) (hr : Rep kz q t root) (j : Int) (hj0 : 0 ≤ j) (hj1 : j ≤ tSize t) (hsz : tSize t ≤ 1000000) : FnG Try.prog 49 1 [.is (.pointer (some ⟨b, 0, none⟩)), .ref [.is (arV o), .int .i64 root], .ref [.int .i64 j], .ref [.int .i64 x]] [bldH 118 (.pointer (some ⟨b, 0, none⟩)) o root 0 room q] (.int .i64 (insS room q 0 x t root j).2.2) (fun _ => [bldH 118 (.pointer (some ⟨b, 0, none⟩)) o root (insS room q 0 x t root j).2.1 room (insS room q 0 x t root j).1]) := by
  refine FnG.mk Try.func49 rfl Try.ntmps49 rfl (by kernel_rfl) ?_
  intro B F0 a w F hB hG hS
  refine wp_seq ?_
  refine region_seq hS (by kernel_rfl)
    (cF rfl (o_assign (.ci (by kernel_rfl)) (by rfl)) trivial trivial
    Chain.nil)
    (by kernel_rfl) (by rw [hB]; kernel_rfl) ?_
  clear hS; intro a w F hS
  obtain ⟨F, hS⟩ := hS.norm [(0, _), (1, _), (2, _), (3, _), (5, _)] [(0, _), (1, _)] r5 r2
  try dsimp only [rCell, rPair] at hS
  refine then_n ?_
  refine wp_seq ?_
  refine region_seq hS (by kernel_rfl)
    (cF rfl (o_move .t (by rfl)) r1 trivial
    (cF rfl (o_fieldAddr_ref (off := 1) .t (by kernel_rfl)) r1 trivial
    (cF rfl (o_load_ref (ag := false) (sz := 1) .t (by kernel_rfl) (by kernel_rfl) (by kernel_rfl)) r1 trivial
    (cF rfl (o_load_ref (ag := false) (sz := 1) .t (by kernel_rfl) (by kernel_rfl) (by kernel_rfl)) r1 trivial
    (cF rfl (o_load_ref (ag := false) (sz := 1) .t (by kernel_rfl) (by kernel_rfl) (by kernel_rfl)) r1 trivial
    (cF rfl (o_callG1 1 (sinsert_c b o root 0 room q x t root j hr hj0 hj1 hsz) Try.func50 rfl (by kernel_rfl) (Args.four .t .t .t .t)) r4 r1
    (cF rfl (o_assign .t (by rfl)) r1 trivial
    Chain.nil)))))))
    (by kernel_rfl) (by rw [hB]; kernel_rfl) ?_
  clear hS; intro a w F hS
  obtain ⟨F, hS⟩ := hS.norm [(5, _)] [(0, _), (1, _)] r1 r2
  try dsimp only [List.map, List.drop_succ_cons, List.drop_zero, List.drop_nil, List.take_succ_cons, List.take_zero, List.take_nil, ldSF, rCell, rPair] at hS
  refine then_n ?_
  refine wp_ret ?_
  refine ret_G1 hG hS rfl (.tmp rfl .nil) (.one (.int rfl)) rfl

theorem sSet1_c (b : Nat) (o : Option Nat) (root room : Int) (q : List Cell) (x : Int) (t : Tree) (hr : Rep kz q t root) (j : Int) (hj0 : 0 ≤ j) (hj1 : j < tSize t) (hsz : tSize t ≤ 1000000) : FnG Try.prog 63 1 [.is (.pointer (some ⟨b, 0, none⟩)), .ref [.is (arV o), .int .i64 root], .ref [.int .i64 j], .ref [.int .i64 x]] [bldH 118 (.pointer (some ⟨b, 0, none⟩)) o root 0 room q] (.int .i64 (setS room q 0 x t root j).2.2) (fun _ => [bldH 118 (.pointer (some ⟨b, 0, none⟩)) o root (setS room q 0 x t root j).2.1 room (setS room q 0 x t root j).1]) := by
  refine FnG.mk Try.func63 rfl Try.ntmps63 rfl (by kernel_rfl) ?_
  intro B F0 a w F hB hG hS
  refine wp_seq ?_
  refine region_seq hS (by kernel_rfl)
    (cF rfl (o_assign (.ci (by kernel_rfl)) (by rfl)) trivial trivial
    Chain.nil)
    (by kernel_rfl) (by rw [hB]; kernel_rfl) ?_
  clear hS; intro a w F hS
  obtain ⟨F, hS⟩ := hS.norm [(0, _), (1, _), (2, _), (3, _), (5, _)] [(0, _), (1, _)] r5 r2
  try dsimp only [rCell, rPair] at hS
  refine then_n ?_
  refine wp_seq ?_
  refine region_seq hS (by kernel_rfl)
    (cF rfl (o_move .t (by rfl)) r1 trivial
    (cF rfl (o_fieldAddr_ref (off := 1) .t (by kernel_rfl)) r1 trivial
    (cF rfl (o_load_ref (ag := false) (sz := 1) .t (by kernel_rfl) (by kernel_rfl) (by kernel_rfl)) r1 trivial
    (cF rfl (o_load_ref (ag := false) (sz := 1) .t (by kernel_rfl) (by kernel_rfl) (by kernel_rfl)) r1 trivial
    (cF rfl (o_load_ref (ag := false) (sz := 1) .t (by kernel_rfl) (by kernel_rfl) (by kernel_rfl)) r1 trivial
    (cF rfl (o_callG1 1 (sset_c b o root 0 room q x t root j hr hj0 hj1 hsz) Try.func64 rfl (by kernel_rfl) (Args.four .t .t .t .t)) r4 r1
    (cF rfl (o_assign .t (by rfl)) r1 trivial
    Chain.nil)))))))
    (by kernel_rfl) (by rw [hB]; kernel_rfl) ?_
  clear hS; intro a w F hS
  obtain ⟨F, hS⟩ := hS.norm [(5, _)] [(0, _), (1, _)] r1 r2
  try dsimp only [List.map, List.drop_succ_cons, List.drop_zero, List.drop_nil, List.take_succ_cons, List.take_zero, List.take_nil, ldSF, rCell, rPair] at hS
  refine then_n ?_
  refine wp_ret ?_
  refine ret_G1 hG hS rfl (.tmp rfl .nil) (.one (.int rfl)) rfl

theorem sDel1_c (b : Nat) (o : Option Nat) (root room : Int) (q : List Cell) (t : Tree) (hr : Rep kz q t root) (j : Int) (hj0 : 0 ≤ j) (hj1 : j < tSize t) (hsz : tSize t ≤ 1000000) : FnG Try.prog 51 1 [.is (.pointer (some ⟨b, 0, none⟩)), .ref [.is (arV o), .int .i64 root], .ref [.int .i64 j]] [bldH 118 (.pointer (some ⟨b, 0, none⟩)) o root 0 room q] (.int .i64 (sdelS room q 0 t root j).2.2.2) (fun _ => [bldH 118 (.pointer (some ⟨b, 0, none⟩)) o root (sdelS room q 0 t root j).2.2.1 room (sdelS room q 0 t root j).2.1]) := by
  refine FnG.mk Try.func51 rfl Try.ntmps51 rfl (by kernel_rfl) ?_
  intro B F0 a w F hB hG hS
  refine wp_seq ?_
  refine region_seq hS (by kernel_rfl)
    (cF rfl (o_assign (.ci (by kernel_rfl)) (by rfl)) trivial trivial
    Chain.nil)
    (by kernel_rfl) (by rw [hB]; kernel_rfl) ?_
  clear hS; intro a w F hS
  obtain ⟨F, hS⟩ := hS.norm [(0, _), (1, _), (2, _), (4, _)] [(0, _), (1, _)] r4 r2
  try dsimp only [rCell, rPair] at hS
  refine then_n ?_
  refine wp_seq ?_
  refine region_seq hS (by kernel_rfl)
    (cF rfl (o_move .t (by rfl)) r1 trivial
    (cF rfl (o_fieldAddr_ref (off := 1) .t (by kernel_rfl)) r1 trivial
    (cF rfl (o_load_ref (ag := false) (sz := 1) .t (by kernel_rfl) (by kernel_rfl) (by kernel_rfl)) r1 trivial
    (cF rfl (o_load_ref (ag := false) (sz := 1) .t (by kernel_rfl) (by kernel_rfl) (by kernel_rfl)) r1 trivial
    (cF rfl (o_callG1 1 (sdel_c b o root 0 room q t root j hr hj0 hj1 hsz) Try.func52 rfl (by kernel_rfl) (Args.three .t .t .t)) r3 r1
    (cF rfl (o_move .t (by rfl)) r1 trivial
    (cF rfl (o_extract .t rfl) r1 trivial
    (cF rfl (o_extract .t rfl) r1 trivial
    (cF rfl (o_assign .t (by rfl)) r1 trivial
    (cF rfl (o_assign .t (by rfl)) r1 trivial
    Chain.nil))))))))))
    (by kernel_rfl) (by rw [hB]; kernel_rfl) ?_
  clear hS; intro a w F hS
  obtain ⟨F, hS⟩ := hS.norm [(4, _), (5, _)] [(0, _), (1, _)] r2 r2
  try dsimp only [List.map, List.drop_succ_cons, List.drop_zero, List.drop_nil, List.take_succ_cons, List.take_zero, List.take_nil, ldSF, rCell, rPair] at hS
  refine then_n ?_
  refine wp_seq ?_
  refine region_seq hS (by kernel_rfl)
    (cF rfl (o_move .t (by rfl)) r1 trivial
    (cF rfl (o_assign .t (by rfl)) r1 trivial
    Chain.nil))
    (by kernel_rfl) (by rw [hB]; kernel_rfl) ?_
  clear hS; intro a w F hS
  obtain ⟨F, hS⟩ := hS.norm [(4, _)] [(0, _), (1, _)] r1 r2
  try dsimp only [rCell, rPair] at hS
  refine then_n ?_
  refine wp_ret ?_
  refine ret_G1 hG hS rfl (.tmp rfl .nil) (.one (.int rfl)) rfl

theorem sOf1_c (b : Nat) (o : Option Nat) (root room : Int) (q : List Cell) (l : List Int) : FnG Try.prog 66 1 [.is (.pointer (some ⟨b, 0, none⟩)), .ref [.sl rInt l]] [bldH 118 (.pointer (some ⟨b, 0, none⟩)) o root 0 room q] (.int .i64 (allQ room (l.length + 1) q 0 l).2.2) (fun _ => [bldH 118 (.pointer (some ⟨b, 0, none⟩)) o root (allQ room (l.length + 1) q 0 l).2.1 room (allQ room (l.length + 1) q 0 l).1]) := by
  refine FnG.mk Try.func66 rfl Try.ntmps66 rfl (by kernel_rfl) ?_
  intro B F0 a w F hB hG hS
  refine wp_seq ?_
  refine region_seq hS (by kernel_rfl)
    (cF rfl (o_assign (.ci (by kernel_rfl)) (by rfl)) trivial trivial
    Chain.nil)
    (by kernel_rfl) (by rw [hB]; kernel_rfl) ?_
  clear hS; intro a w F hS
  obtain ⟨F, hS⟩ := hS.norm [(0, _), (1, _), (3, _)] [(0, _), (1, _)] r3 r2
  try dsimp only [rCell, rPair] at hS
  refine then_n ?_
  refine wp_seq ?_
  refine region_seq hS (by kernel_rfl)
    (cF rfl (o_move .t (by rfl)) r1 trivial
    (cF rfl (o_load_ref (ag := false) (sz := 1) .t (by kernel_rfl) (by kernel_rfl) (by kernel_rfl)) r1 trivial
    (cF rfl (o_callG1 1 (sall_c b o root room (l.length + 1) q 0 l (Nat.lt_succ_self _)) Try.func67 rfl (by kernel_rfl) (Args.two .t .t)) r2 r1
    (cF rfl (o_assign .t (by rfl)) r1 trivial
    Chain.nil))))
    (by kernel_rfl) (by rw [hB]; kernel_rfl) ?_
  clear hS; intro a w F hS
  obtain ⟨F, hS⟩ := hS.norm [(3, _)] [(0, _), (1, _)] r1 r2
  try dsimp only [List.map, List.drop_succ_cons, List.drop_zero, List.drop_nil, List.take_succ_cons, List.take_zero, List.take_nil, ldSF, rCell, rPair] at hS
  refine then_n ?_
  refine wp_ret ?_
  refine ret_G1 hG hS rfl (.tmp rfl .nil) (.one (.int rfl)) rfl

theorem schange_c (o : Option Nat) (room : Int) (q : List Cell) (root : Int) (th : Bool) (f : FuncId) (fn : Func) (cps : List PV) (hf : Try.prog.funcs[f]? = some fn) (hb : fn.body.isSome = true) (hnn : (fn.name == "runtime.NumGoroutine") = false) (M : St) (hw : th = true → ∀ b, FnG Try.prog f 1 (.is (.pointer (some ⟨b, 0, none⟩)) :: cps) [bldH 118 (.pointer (some ⟨b, 0, none⟩)) o root 0 room q] (.int .i64 M.2.2) (fun _ => [bldH 118 (.pointer (some ⟨b, 0, none⟩)) o root M.2.1 room M.1])) : FnG Try.prog 48 1 [.agg [.is (arV o), .int .i64 root], .bool th, .clos f cps] [arH o room q] (.tup [.agg [.is (arV o), .int .i64 (chgM th q M).2.2], .int .i64 (chgM th q M).2.1]) (fun _ => [arH o room (chgM th q M).1]) := by
  refine FnG.mk Try.func48 rfl Try.ntmps48 rfl (by kernel_rfl) ?_
  intro B F0 a w F hB hG hS
  refine wp_seq ?_
  refine region_seq hS (by kernel_rfl)
    (cF rfl (o_boxA 101 (.conv .t .agg) (by kernel_rfl)) r1 trivial
    (cF rfl (o_alloc (zs := [.pointer none, .int .i64 0]) 102 (by kernel_rfl)) trivial trivial
    (cF rfl (o_assign (.ci (by kernel_rfl)) (by rfl)) trivial trivial
    Chain.nil)))
    (by kernel_rfl) (by rw [hB]; kernel_rfl) ?_
  clear hS; intro a w F hS
  replace hS := hS.sub
  obtain ⟨F, hS⟩ := hS.norm [(1, _), (2, _), (3, _), (6, _), (7, _)] [(0, _), (1, _), (101, _), (102, _)] r5 r4
  try dsimp only [RS.sub, SF.sub, CF.sub, csub, Anc.sub, List.map, zCF, rCell, rPair] at hS
  generalize Act.tau a 3 = v3 at hS
  generalize Act.tau a 6 = v6 at hS
  refine then_n ?_
  refine wp_seq ?_
  refine wp_seq ?_
  refine region_seq hS (by kernel_rfl)
    (cF rfl (o_move .t (by rfl)) r1 trivial
    (cF rfl (o_not .t) r1 trivial
    Chain.nil))
    (by kernel_rfl) (by rw [hB]; kernel_rfl) ?_
  clear hS; intro a w F hS
  obtain ⟨F, hS⟩ := hS.norm [(2, _), (3, _), (6, _), (7, _), (12, _)] [(0, _), (1, _), (101, _), (102, _)] r5 r4
  try dsimp only [rCell, rPair] at hS
  refine then_n ?_
  refine cond_b hS rfl (fun hc0 => ?_) (fun hc0 => ?_)
  ·skip
   have hth : th = false := by simpa using hc0
   have hg : (chgM th q M) = (q, 1, 0) := by rw [hth]; rfl
   refine wp_seq ?_
   refine region_seq hS (by kernel_rfl)
     (cF rfl (o_fieldAddr (off := 0) 101 .is (by kernel_rfl) (by rfl)) r1 r1
     (cF rfl (o_load (ag := false) (sz := 1) 101 .adr (by kernel_rfl) (by kernel_rfl) (by kernel_rfl) (by rfl)) r1 r1
     (cF rfl (o_callP (snew_c o) Try.func10 rfl (by kernel_rfl) (Args.one .t)) r1 trivial
     (cF rfl (o_storeA (sz := 2) 102 .is (.conv .t .agg) (by kernel_rfl) (by kernel_rfl) (by kernel_rfl)) r2 r1
     (cF rfl (o_assign (.ci (by kernel_rfl)) (by rfl)) trivial trivial
     Chain.nil)))))
     (by kernel_rfl) (by rw [hB]; kernel_rfl) ?_
   clear hS; intro a w F hS
   obtain ⟨F, hS⟩ := hS.norm [(2, _), (3, _), (6, _), (7, _)] [(0, _), (1, _), (101, _), (102, _)] r4 r4
   try dsimp only [List.map, stCells, List.length_cons, List.length_nil, Nat.reduceAdd, List.drop_succ_cons, List.drop_zero, List.drop_nil, List.take_succ_cons, List.take_zero, List.take_nil, List.cons_append, List.nil_append, zCF, ldSF, rCell, rPair] at hS
   refine then_n ?_
   refine wp_ret ?_
   refine then_r ?_
   have hS := hS.turn 1 rfl (r' := RS.hp (arH o room (chgM th q M).1)) (fun _ _ _ _ h => by rw [hg]; exact h)
   refine ret_G1 hG hS rfl (.cell (n := 102) (ag := true) (sz := 2) rfl .is rfl (by kernel_rfl) (by kernel_rfl) (by kernel_rfl) (.tmp rfl .nil)) (.two (.aggU rfl (by rw [hg]; rfl)) (.int (by rw [hg]))) rfl
  ·skip
   have hth : th = true := by simpa using hc0
   refine wp_skip ?_
   refine then_n ?_
   refine wp_seq ?_
   refine region_seq hS (by kernel_rfl)
     (cF rfl (o_load (ag := true) (sz := 2) 101 .is (by kernel_rfl) (by kernel_rfl) (by kernel_rfl) (by rfl)) r1 r1
     (cF rfl (o_build (r := [(0, .tmp 16)]) (zs := [.pointer none, .int .i64 0, .int .i64 0]) (pl := [(0, 2), (2, 1)]) (by kernel_rfl) (by kernel_rfl) (.agg rfl .t (by kernel_rfl) (by kernel_rfl) .nil) (by rfl)) r1 trivial
     (cF rfl (o_boxA 103 .t (by kernel_rfl)) r1 trivial
     (cF rfl (o_assign .t (by rfl)) r1 trivial
     Chain.nil))))
     (by kernel_rfl) (by rw [hB]; kernel_rfl) ?_
   clear hS; intro a w F hS
   replace hS := hS.sub
   obtain ⟨F, hS⟩ := hS.norm [(2, _), (3, _), (6, _), (7, _), (8, _)] [(0, _), (1, _), (101, _), (102, _), (103, _)] r5 r5
   try dsimp only [RS.sub, SF.sub, CF.sub, csub, Anc.sub, List.map, stCells, List.length_cons, List.length_nil, Nat.reduceAdd, List.drop_succ_cons, List.drop_zero, List.drop_nil, List.take_succ_cons, List.take_zero, List.take_nil, List.cons_append, List.nil_append, zCF, ldSF, rCell, rPair] at hS
   generalize Act.tau a 18 = v18 at hS
   refine then_n ?_
   refine wp_seq ?_
   refine region_seq hS (by kernel_rfl)
     (cF rfl (o_fieldAddr (off := 0) 101 .is (by kernel_rfl) (by rfl)) r1 r1
     (cF rfl (o_load (ag := false) (sz := 1) 101 .adr (by kernel_rfl) (by kernel_rfl) (by kernel_rfl) (by rfl)) r1 r1
     (cF rfl (o_callG1 1 (aLen_c o room q) Try.func37 rfl (by kernel_rfl) (Args.one .t)) r1 r1
     (cF rfl (o_assign .t (by rfl)) r1 trivial
     Chain.nil))))
     (by kernel_rfl) (by rw [hB]; kernel_rfl) ?_
   clear hS; intro a w F hS
   obtain ⟨F, hS⟩ := hS.norm [(2, _), (3, _), (6, _), (7, _), (8, _), (9, _)] [(0, _), (1, _), (101, _), (102, _), (103, _)] r6 r5
   try dsimp only [List.map, List.drop_succ_cons, List.drop_zero, List.drop_nil, List.take_succ_cons, List.take_zero, List.take_nil, ldSF, rCell, rPair] at hS
   refine then_n ?_
   refine wp_seq ?_
   obtain ⟨b, rfl⟩ := hS.shape 103 rfl
   have hS := hS.fresh 4 rfl
   obtain ⟨F, hS⟩ := hS.push 4 1 rfl rfl rfl (by kernel_rfl)
   obtain ⟨F, hS⟩ := hS.push 4 103 rfl rfl rfl (by kernel_rfl)
   have hS := hS.turn 4 rfl (r' := RS.hp (bldH 118 (.pointer (some ⟨b, 0, none⟩)) o root 0 room q)) (fun _ _ _ _ h => h)
   obtain ⟨F, hS⟩ := hS.norm [(2, _), (3, _), (6, _), (7, _), (8, _), (9, _)] [(0, _), (4, _), (101, _), (102, _)] r6 r4
   refine region_seq hS (by kernel_rfl)
     (cF rfl (o_move .t (by rfl)) r1 trivial
     (cF rfl (o_move .t (by rfl)) r1 trivial
     (cF rfl (o_callClos 4 .t (hw hth b) hf hb hnn (Args.one .t)) r2 r1
     (cF rfl (o_assign .t (by rfl)) r1 trivial
     Chain.nil))))
     (by kernel_rfl) (by rw [hB]; kernel_rfl) ?_
   clear hS; intro a w F hS
   obtain ⟨F, hS⟩ := hS.norm [(3, _), (6, _), (7, _), (8, _), (9, _), (10, _)] [(0, _), (4, _), (101, _), (102, _)] r6 r4
   try dsimp only [rCell, rPair] at hS
   obtain ⟨F, hS⟩ := hS.peel 4 7 rfl rfl
   obtain ⟨F, hS⟩ := hS.peel 4 1 rfl rfl
   obtain ⟨F, hS⟩ := hS.norm [(3, _), (6, _), (7, _), (8, _), (9, _), (10, _)] [(0, _), (1, _), (7, _), (101, _), (102, _)] r6 r5
   refine then_n ?_
   refine wp_seq ?_
   refine wp_seq ?_
   refine region_seq hS (by kernel_rfl)
     (cF rfl (o_move .t (by rfl)) r1 trivial
     (cF rfl (o_nilCheck 7 .is (by rfl)) r1 r1
     (cF rfl (o_fieldAddr (off := 2) 7 .adr (by kernel_rfl) (by rfl)) r1 r1
     (cF rfl (o_load (ag := false) (sz := 1) 7 .adr (by kernel_rfl) (by kernel_rfl) (by kernel_rfl) (by rfl)) r1 r1
     (cF rfl (o_neq .t (.ci (by kernel_rfl))) r1 trivial
     Chain.nil)))))
     (by kernel_rfl) (by rw [hB]; kernel_rfl) ?_
   clear hS; intro a w F hS
   obtain ⟨F, hS⟩ := hS.norm [(3, _), (6, _), (7, _), (8, _), (9, _), (10, _), (29, _)] [(0, _), (1, _), (7, _), (101, _), (102, _)] r7 r5
   try dsimp only [List.map, List.drop_succ_cons, List.drop_zero, List.drop_nil, List.take_succ_cons, List.take_zero, List.take_nil, ldSF, rCell, rPair] at hS
   refine then_n ?_
   refine cond_b hS rfl (fun hc1 => ?_) (fun hc1 => ?_)
   ·skip
    have hM : M.2.1 ≠ 0 := by simpa using hc1
    have hg : (chgM th q M) = (arCut M.1 q.length, M.2.1, 0) := by rw [hth]; show toldM q.length M = _; unfold toldM; rw [if_pos hM, if_pos hM]
    refine wp_seq ?_
    refine region_seq hS (by kernel_rfl)
      (cF rfl (o_fieldAddr (off := 0) 101 .is (by kernel_rfl) (by rfl)) r1 r1
      (cF rfl (o_load (ag := false) (sz := 1) 101 .adr (by kernel_rfl) (by kernel_rfl) (by kernel_rfl) (by rfl)) r1 r1
      (cF rfl (o_move .t (by rfl)) r1 trivial
      (cF rfl (o_callG1 1 (aCut_c o room M.1 q.length) Try.func69 rfl (by kernel_rfl) (Args.two .t .t)) r2 r1
      Chain.nil))))
      (by kernel_rfl) (by rw [hB]; kernel_rfl) ?_
    clear hS; intro a w F hS
    obtain ⟨F, hS⟩ := hS.norm [(3, _), (6, _), (7, _), (8, _), (10, _)] [(0, _), (1, _), (7, _), (101, _), (102, _)] r5 r5
    try dsimp only [List.map, List.drop_succ_cons, List.drop_zero, List.drop_nil, List.take_succ_cons, List.take_zero, List.take_nil, ldSF, rCell, rPair] at hS
    refine then_n ?_
    refine wp_seq ?_
    refine region_any (by kernel_rfl) hS (by kernel_rfl)
      (cF rfl (o_fieldAddr (off := 0) 101 .is (by kernel_rfl) (by rfl)) r1 r1
      (cF rfl (o_load (ag := false) (sz := 1) 101 .adr (by kernel_rfl) (by kernel_rfl) (by kernel_rfl) (by rfl)) r1 r1
      (cF rfl (o_callP (snew_c o) Try.func10 rfl (by kernel_rfl) (Args.one .t)) r1 trivial
      (cF rfl (o_move .t (by rfl)) r1 trivial
      (cF rfl (o_nilCheck 7 .is (by rfl)) r1 r1
      (cF rfl (o_fieldAddr (off := 2) 7 .adr (by kernel_rfl) (by rfl)) r1 r1
      (cF rfl (o_load (ag := false) (sz := 1) 7 .adr (by kernel_rfl) (by kernel_rfl) (by kernel_rfl) (by rfl)) r1 r1
      (cF rfl (o_storeA (sz := 2) 102 .is (.conv .t .agg) (by kernel_rfl) (by kernel_rfl) (by kernel_rfl)) r2 r1
      (cF rfl (o_assign .t (by rfl)) r1 trivial
      Chain.nil)))))))))
      (by kernel_rfl) (by rw [hB]; kernel_rfl) ?_
    clear hS; intro a w F hS
    obtain ⟨F, hS⟩ := hS.norm [(3, _), (6, _), (7, _), (10, _)] [(0, _), (1, _), (7, _), (101, _), (102, _)] r4 r5
    try dsimp only [List.map, stCells, List.length_cons, List.length_nil, Nat.reduceAdd, List.drop_succ_cons, List.drop_zero, List.drop_nil, List.take_succ_cons, List.take_zero, List.take_nil, List.cons_append, List.nil_append, zCF, ldSF, rCell, rPair] at hS
    refine then_n ?_
    refine wp_ret ?_
    refine then_r ?_
    have hS := hS.turn 1 rfl (r' := RS.hp (arH o room (chgM th q M).1)) (fun _ _ _ _ h => by rw [hg]; exact h)
    refine ret_G1 hG hS rfl (.cell (n := 102) (ag := true) (sz := 2) rfl .is rfl (by kernel_rfl) (by kernel_rfl) (by kernel_rfl) (.tmp rfl .nil)) (.two (.aggU rfl (by rw [hg]; rfl)) (.int (by rw [hg]))) rfl
   ·skip
    have hM : M.2.1 = 0 := by simpa using hc1
    have hg : (chgM th q M) = (M.1, 0, M.2.2) := by rw [hth]; show toldM q.length M = _; unfold toldM; rw [if_neg (by omega), if_neg (by omega), hM]
    refine wp_skip ?_
    refine then_n ?_
    refine wp_seq ?_
    refine region_seq hS (by kernel_rfl)
      (cF rfl (o_fieldAddr (off := 0) 101 .is (by kernel_rfl) (by rfl)) r1 r1
      (cF rfl (o_load (ag := false) (sz := 1) 101 .adr (by kernel_rfl) (by kernel_rfl) (by kernel_rfl) (by rfl)) r1 r1
      (cF rfl (o_move .t (by rfl)) r1 trivial
      (cF rfl (o_build (r := [(0, .tmp 42), (1, .tmp 43)]) (zs := [.pointer none, .int .i64 0]) (pl := [(0, 1), (1, 1)]) (by kernel_rfl) (by kernel_rfl) (.one rfl .t one_is (by kernel_rfl) (.one rfl .t one_int (by kernel_rfl) .nil)) (by rfl)) r2 trivial
      (cF rfl (o_storeA (sz := 2) 102 .is .t (by kernel_rfl) (by kernel_rfl) (by kernel_rfl)) r2 r1
      (cF rfl (o_assign (.ci (by kernel_rfl)) (by rfl)) trivial trivial
      Chain.nil))))))
      (by kernel_rfl) (by rw [hB]; kernel_rfl) ?_
    clear hS; intro a w F hS
    obtain ⟨F, hS⟩ := hS.norm [(6, _), (7, _)] [(0, _), (1, _), (7, _), (102, _)] r2 r4
    try dsimp only [List.map, stCells, List.length_cons, List.length_nil, Nat.reduceAdd, List.drop_succ_cons, List.drop_zero, List.drop_nil, List.take_succ_cons, List.take_zero, List.take_nil, List.cons_append, List.nil_append, zCF, ldSF, rCell, rPair] at hS
    refine then_n ?_
    refine wp_ret ?_
    have hS := hS.turn 1 rfl (r' := RS.hp (arH o room (chgM th q M).1)) (fun _ _ _ _ h => by rw [hg]; exact h)
    refine ret_G1 hG hS rfl (.cell (n := 102) (ag := true) (sz := 2) rfl .is rfl (by kernel_rfl) (by kernel_rfl) (by kernel_rfl) (.tmp rfl .nil)) (.two (.aggU rfl (by rw [hg]; rfl)) (.int (by rw [hg]))) rfl

end Go.Proofs.Ytdfpljecogijaaa
