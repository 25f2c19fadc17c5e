/- Sequences: all, closures, change. No condition beyond those that each theorem says. -/
import Derived.Test.YtdfidiehkkbimaaSq1
import Derived.Test.YtdfidiehkkbimaaAv7
namespace Go.Proofs.Ytdfidiehkkbimaa
open Go Go.Gm
set_option linter.unusedVariables false
set_option linter.unusedSimpArgs false
set_option maxHeartbeats 4000000
set_option maxRecDepth 8000


theorem sall_s (b : Nat) (o : Option Nat) (root why room : Int) (q : List Cell) (n : Nat) (ih : ∀ (q : List Cell) (why : Int) (l : List Int), l.length < n → FnG Try.prog 122 1 [.is (.pointer (some ⟨b, 0, none⟩)), .sl rInt l] [bldH 190 (.pointer (some ⟨b, 0, none⟩)) o root why room q] (.int .i64 (allQ room n q why l).2.2) (fun _ => [bldH 190 (.pointer (some ⟨b, 0, none⟩)) o root (allQ room n q why l).2.1 room (allQ room n q why l).1])) (l : List Int) (hl : l.length < n + 1) : FnG Try.prog 122 1 [.is (.pointer (some ⟨b, 0, none⟩)), .sl rInt l] [bldH 190 (.pointer (some ⟨b, 0, none⟩)) o root why room q] (.int .i64 (allQ room (n + 1) q why l).2.2) (fun _ => [bldH 190 (.pointer (some ⟨b, 0, none⟩)) o root (allQ room (n + 1) q why l).2.1 room (allQ room (n + 1) q why l).1]) := by
  refine FnG.mk Try.func122 rfl Try.ntmps122 rfl (by kernel_rfl) ?_
  intro B F0 a w F hB hG hS
  have hll := Sat.lenSl hS (i := 1) rfl
  refine wp_seq ?_
  refine region_q hS
    (cF rfl (oN (.ci (by kernel_rfl))) trivial trivial
    Chain.nil)
    hB ?_
  clear hS; intro a w F hS
  obtain ⟨F, hS⟩ := hS.nm [4, 1, 0] [1, 0] rfl rfl
  try dsimp only [rCell, rPair] at hS
  refine then_n (wp_seq (wp_seq ?_))
  refine region_q hS
    (cF rfl (oM .t) r1 trivial
    (cF rfl (o_len_sl Try.underlying61 .t) r1 trivial
    (cF rfl (o_eql .t (.ci (by kernel_rfl))) r1 trivial
    Chain.nil)))
    hB ?_
  clear hS; intro a w F hS
  obtain ⟨F, hS⟩ := hS.nm [9, 4, 1, 0] [1, 0] rfl rfl
  try dsimp only [rCell, rPair] at hS
  refine then_n ?_
  refine cond_b hS rfl (fun hc0 => ?_) (fun hc0 => ?_)
  ·skip
   have hz : l = [] := List.eq_nil_of_length_eq_zero (by simp only [decide_eq_true_eq] at hc0; omega)
   have hg : (allQ room (n + 1) q why l) = (q, why, 0) := if_pos hz
   refine wp_seq ?_
   refine region_q hS
     (cF rfl (oN (.ci (by kernel_rfl))) trivial trivial
     Chain.nil)
     hB ?_
   clear hS; intro a w F hS
   obtain ⟨F, hS⟩ := hS.nm [4, 1, 0] [1, 0] rfl rfl
   try dsimp only [rCell, rPair] at hS
   refine then_n (wp_ret (then_r ?_))
   have hS := hS.turn 1 rfl (r' := RS.hp (bldH 190 (.pointer (some ⟨b, 0, none⟩)) o root (allQ room (n + 1) q why l).2.1 room (allQ room (n + 1) q why l).1)) (fun _ _ _ _ h => by rw [hg]; exact h)
   refine ret_G1 hG hS rfl (.tmp rfl .nil) (.one (.int (by first | (rw [hg]; done) | (rw [hg]; rfl)))) rfl
  have hz : ¬ l = [] := by intro hz; rw [hz] at hc0; simp at hc0
  have hp : 0 < l.length := List.length_pos_iff.2 hz
  have hk1 : IntKind.wrap .i64 (((l.length / 2 : Nat) : Int) + 1) = ((l.length / 2 + 1 : Nat) : Int) := by rw [wrap_i64 (by omega)]; omega
  have hg : (allQ room (n + 1) q why l) = (madeS room (allQ room n (allQ room n q why (l.take (l.length / 2))).1 (allQ room n q why (l.take (l.length / 2))).2.1 (l.drop (IntKind.wrap .i64 (((l.length / 2 : Nat) : Int) + 1)).toNat)).1 (allQ room n (allQ room n q why (l.take (l.length / 2))).1 (allQ room n q why (l.take (l.length / 2))).2.1 (l.drop (IntKind.wrap .i64 (((l.length / 2 : Nat) : Int) + 1)).toNat)).2.1 (allQ room n q why (l.take (l.length / 2))).2.2 (allQ room n (allQ room n q why (l.take (l.length / 2))).1 (allQ room n q why (l.take (l.length / 2))).2.1 (l.drop (IntKind.wrap .i64 (((l.length / 2 : Nat) : Int) + 1)).toNat)).2.2 ⟨0, Go.Gm.nth l (l.length / 2)⟩) := by rw [hk1, Int.toNat_natCast]; exact if_neg hz
  refine wp_skip (then_n (wp_seq ?_))
  refine region_q hS
    (cF rfl (oM .t) r1 trivial
    (cF rfl (o_len_sl Try.underlying61 .t) r1 trivial
    (cF rfl (o_shr .t (.ci (by kernel_rfl)) (by decide)) r1 trivial
    (cF rfl (oN .t) r1 trivial
    Chain.nil))))
    hB ?_
  clear hS; intro a w F hS
  obtain ⟨F, hS⟩ := hS.nm [5, 4, 1, 0] [1, 0] rfl rfl
  try dsimp only [rCell, rPair] at hS
  rw [shr1] at hS
  refine then_n (wp_seq ?_)
  refine region_q hS
    (cF rfl (oM .t) r1 trivial
    (cF rfl (oM .t) r1 trivial
    (cF rfl (oM .t) r1 trivial
    (cF rfl (o_slice_hi (sz := 1) (.mk Try.underlying61 (by kernel_rfl)) (by intro x; rfl) .t .t (by omega) (by omega)) r2 trivial
    (cF rfl (o_callG1 1 (ih q why (l.take (l.length / 2)) (by rw [List.length_take]; omega)) Try.func122 rfl (by kernel_rfl) (Args.two .t .t)) r2 r1
    (cF rfl (oN .t) r1 trivial
    Chain.nil))))))
    hB ?_
  clear hS; intro a w F hS
  obtain ⟨F, hS⟩ := hS.nm [6, 5, 4, 1, 0] [1, 0] rfl rfl
  try dsimp only [rCell, rPair] at hS
  refine then_n (wp_seq ?_)
  refine region_any (by kernel_rfl) hS (by kernel_rfl)
    (cF rfl (oM .t) r1 trivial
    (cF rfl (oM .t) r1 trivial
    (cF rfl (oM .t) r1 trivial
    (cF rfl (oM .t) r1 trivial
    (cF rfl (oM .t) r1 trivial
    (cF rfl (o_add .t (.ci (by kernel_rfl))) r1 trivial
    (cF rfl (o_slice_lo (sz := 1) (.mk Try.underlying61 (by kernel_rfl)) (by intro x; rfl) .t .t (by rw [hk1]; omega) (by rw [hk1]; omega)) r2 trivial
    (cF rfl (o_callG1 1 (ih (allQ room n q why (l.take (l.length / 2))).1 (allQ room n q why (l.take (l.length / 2))).2.1 (l.drop (IntKind.wrap .i64 (((l.length / 2 : Nat) : Int) + 1)).toNat) (by rw [List.length_drop, hk1]; omega)) Try.func122 rfl (by kernel_rfl) (Args.two .t .t)) r2 r1
    (cF rfl (oM .t) r1 trivial
    (cF rfl (oM .t) r1 trivial
    (cF rfl (o_indexAddr_sl (sz := 1) (.mk Try.underlying61 (by kernel_rfl)) (by intro x; rfl) .t .t (by omega) (by omega)) r2 trivial
    (cF rfl (oR false 1 .t) r1 trivial
    (cF rfl (o_callG1 1 (smade_c b o root (allQ room n (allQ room n q why (l.take (l.length / 2))).1 (allQ room n q why (l.take (l.length / 2))).2.1 (l.drop (IntKind.wrap .i64 (((l.length / 2 : Nat) : Int) + 1)).toNat)).2.1 room (allQ room n (allQ room n q why (l.take (l.length / 2))).1 (allQ room n q why (l.take (l.length / 2))).2.1 (l.drop (IntKind.wrap .i64 (((l.length / 2 : Nat) : Int) + 1)).toNat)).1 (allQ room n q why (l.take (l.length / 2))).2.2 (allQ room n (allQ room n q why (l.take (l.length / 2))).1 (allQ room n q why (l.take (l.length / 2))).2.1 (l.drop (IntKind.wrap .i64 (((l.length / 2 : Nat) : Int) + 1)).toNat)).2.2 (Go.Gm.nth l (l.length / 2))) Try.func124 rfl (by kernel_rfl) (Args.four .t .t .t .t)) r4 r1
    (cF rfl (oN .t) r1 trivial
    Chain.nil))))))))))))))
    (by kernel_rfl) (by rw [hB]; kernel_rfl) ?_
  clear hS; intro a w F hS
  obtain ⟨F, hS⟩ := hS.nm [4] [1, 0] rfl rfl
  try dsimp only [List.map, xD, xE, xT, xU, ldSF, rCell, rPair] at hS
  try simp only [Int.toNat_natCast] at hS
  refine then_n (wp_ret ?_)
  have hS := hS.turn 1 rfl (r' := RS.hp (bldH 190 (.pointer (some ⟨b, 0, none⟩)) o root (allQ room (n + 1) q why l).2.1 room (allQ room (n + 1) q why l).1)) (fun _ _ _ _ h => by rw [hg]; exact h)
  refine ret_G1 hG hS rfl (.tmp rfl .nil) (.one (.int (by first | (rw [hg]; done) | (rw [hg]; rfl)))) rfl

theorem sall_c (b : Nat) (o : Option Nat) (root room : Int) : ∀ (n : Nat) (q : List Cell) (why : Int) (l : List Int), l.length < n → FnG Try.prog 122 1 [.is (.pointer (some ⟨b, 0, none⟩)), .sl rInt l] [bldH 190 (.pointer (some ⟨b, 0, none⟩)) o root why room q] (.int .i64 (allQ room n q why l).2.2) (fun _ => [bldH 190 (.pointer (some ⟨b, 0, none⟩)) o root (allQ room n q why l).2.1 room (allQ room n q why l).1]) := fun n => by
  induction n with
  | zero => intro q why l h; omega
  | succ n ih => intro q why l h; exact sall_s b o root why room q n ih l h

theorem sIns1_c (b : Nat) (o : Option Nat) (root room : Int) (q : List Cell) (x : Int) (t : Tree) (hr : Rep kz q t root) (j : Int) (hj0 : 0 ≤ j) (hj1 : j ≤ tSize t) (hsz : tSize t ≤ 1000000) : FnG Try.prog 80 1 [.is (.pointer (some ⟨b, 0, none⟩)), .ref [.is (arV o), .int .i64 root], .ref [.int .i64 j], .ref [.int .i64 x]] [bldH 190 (.pointer (some ⟨b, 0, none⟩)) o root 0 room q] (.int .i64 (insS room q 0 x t root j).2.2) (fun _ => [bldH 190 (.pointer (some ⟨b, 0, none⟩)) o root (insS room q 0 x t root j).2.1 room (insS room q 0 x t root j).1]) := by
  refine FnG.mk Try.func80 rfl Try.ntmps80 rfl (by kernel_rfl) ?_
  intro B F0 a w F hB hG hS
  refine wp_seq ?_
  refine region_q hS
    (cF rfl (oN (.ci (by kernel_rfl))) trivial trivial
    Chain.nil)
    hB ?_
  clear hS; intro a w F hS
  obtain ⟨F, hS⟩ := hS.nm [5, 3, 2, 1, 0] [1, 0] rfl rfl
  try dsimp only [rCell, rPair] at hS
  refine then_n (wp_seq ?_)
  refine region_q hS
    (cF rfl (oM .t) r1 trivial
    (cF rfl (oG 1 .t) r1 trivial
    (cF rfl (oR false 1 .t) r1 trivial
    (cF rfl (oR false 1 .t) r1 trivial
    (cF rfl (oR false 1 .t) r1 trivial
    (cF rfl (o_callG1 1 (sinsert_c b o root 0 room q x t root j hr hj0 hj1 hsz) Try.func81 rfl (by kernel_rfl) (Args.four .t .t .t .t)) r4 r1
    (cF rfl (oN .t) r1 trivial
    Chain.nil)))))))
    hB ?_
  clear hS; intro a w F hS
  obtain ⟨F, hS⟩ := hS.nm [5] [1, 0] rfl rfl
  try dsimp only [List.map, xD, xE, xT, xU, ldSF, rCell, rPair] at hS
  refine then_n (wp_ret ?_)
  refine ret_G1 hG hS rfl (.tmp rfl .nil) (.one (.int rfl)) rfl

theorem sOf1_c (b : Nat) (o : Option Nat) (root room : Int) (q : List Cell) (l : List Int) : FnG Try.prog 121 1 [.is (.pointer (some ⟨b, 0, none⟩)), .ref [.sl rInt l]] [bldH 190 (.pointer (some ⟨b, 0, none⟩)) o root 0 room q] (.int .i64 (allQ room (l.length + 1) q 0 l).2.2) (fun _ => [bldH 190 (.pointer (some ⟨b, 0, none⟩)) o root (allQ room (l.length + 1) q 0 l).2.1 room (allQ room (l.length + 1) q 0 l).1]) := by
  refine FnG.mk Try.func121 rfl Try.ntmps121 rfl (by kernel_rfl) ?_
  intro B F0 a w F hB hG hS
  refine wp_seq ?_
  refine region_q hS
    (cF rfl (oN (.ci (by kernel_rfl))) trivial trivial
    Chain.nil)
    hB ?_
  clear hS; intro a w F hS
  obtain ⟨F, hS⟩ := hS.nm [3, 1, 0] [1, 0] rfl rfl
  try dsimp only [rCell, rPair] at hS
  refine then_n (wp_seq ?_)
  refine region_q hS
    (cF rfl (oM .t) r1 trivial
    (cF rfl (oR false 1 .t) r1 trivial
    (cF rfl (o_callG1 1 (sall_c b o root room (l.length + 1) q 0 l (Nat.lt_succ_self _)) Try.func122 rfl (by kernel_rfl) (Args.two .t .t)) r2 r1
    (cF rfl (oN .t) r1 trivial
    Chain.nil))))
    hB ?_
  clear hS; intro a w F hS
  obtain ⟨F, hS⟩ := hS.nm [3] [1, 0] rfl rfl
  try dsimp only [List.map, xD, xE, xT, xU, ldSF, rCell, rPair] at hS
  refine then_n (wp_ret ?_)
  refine ret_G1 hG hS rfl (.tmp rfl .nil) (.one (.int rfl)) rfl

theorem schange_c (o : Option Nat) (room : Int) (q : List Cell) (root : Int) (th : Bool) (f : FuncId) (fn : Func) (cps : List PV) (hf : Try.prog.funcs[f]? = some fn) (hb : fn.body.isSome = true) (hnn : (fn.name == "runtime.NumGoroutine") = false) (M : St) (hw : th = true → ∀ b, FnG Try.prog f 1 (.is (.pointer (some ⟨b, 0, none⟩)) :: cps) [bldH 190 (.pointer (some ⟨b, 0, none⟩)) o root 0 room q] (.int .i64 M.2.2) (fun _ => [bldH 190 (.pointer (some ⟨b, 0, none⟩)) o root M.2.1 room M.1])) : FnG Try.prog 79 1 [.agg [.is (arV o), .int .i64 root], .bool th, .clos f cps] [arH o room q] (.tup [.agg [.is (arV o), .int .i64 (chgM th q M).2.2], .int .i64 (chgM th q M).2.1]) (fun _ => [arH o room (chgM th q M).1]) := by
  refine FnG.mk Try.func79 rfl Try.ntmps79 rfl (by kernel_rfl) ?_
  intro B F0 a w F hB hG hS
  refine wp_seq ?_
  refine region_q hS
    (cF rfl (oX 101 (.conv .t .agg)) r1 trivial
    (cF rfl (oH [.pointer none, .int .i64 0] 102) trivial trivial
    (cF rfl (oN (.ci (by kernel_rfl))) trivial trivial
    Chain.nil)))
    hB ?_
  clear hS; intro a w F hS
  replace hS := hS.sub
  obtain ⟨F, hS⟩ := hS.nm [7, 6, 3, 2, 1] [102, 101, 1, 0] rfl rfl
  try dsimp only [RS.sub, SF.sub, CF.sub, csub, Anc.sub, List.map, zCF, rCell, rPair] at hS
  generalize Act.tau a 3 = v3 at hS
  generalize Act.tau a 6 = v6 at hS
  refine then_n (wp_seq (wp_seq ?_))
  refine region_q hS
    (cF rfl (oM .t) r1 trivial
    (cF rfl (o_not .t) r1 trivial
    Chain.nil))
    hB ?_
  clear hS; intro a w F hS
  obtain ⟨F, hS⟩ := hS.nm [12, 7, 6, 3, 2] [102, 101, 1, 0] rfl rfl
  try dsimp only [rCell, rPair] at hS
  refine then_n ?_
  refine cond_b hS rfl (fun hc0 => ?_) (fun hc0 => ?_)
  ·skip
   have hth : th = false := by simpa using hc0
   have hg : (chgM th q M) = (q, 1, 0) := by rw [hth]; rfl
   refine wp_seq ?_
   refine region_q hS
     (cF rfl (oF 0 101 .is) r1 r1
     (cF rfl (oL false 1 101 .adr) r1 r1
     (cF rfl (oP (snew_c o) Try.func28 (Args.one .t)) r1 trivial
     (cF rfl (oA 2 102 .is (.conv .t .agg)) r2 r1
     (cF rfl (oN (.ci (by kernel_rfl))) trivial trivial
     Chain.nil)))))
     hB ?_
   clear hS; intro a w F hS
   obtain ⟨F, hS⟩ := hS.nm [7, 6, 3, 2] [102, 101, 1, 0] rfl rfl
   try dsimp only [List.map, stCells, xL, xM, Nat.reduceAdd, xD, xE, xT, xU, xC, xN, zCF, ldSF, rCell, rPair] at hS
   refine then_n (wp_ret (then_r ?_))
   have hS := hS.turn 1 rfl (r' := RS.hp (arH o room (chgM th q M).1)) (fun _ _ _ _ h => by rw [hg]; exact h)
   refine ret_G1 hG hS rfl (.cell (n := 102) (ag := true) (sz := 2) rfl .is rfl (by kernel_rfl) (by kernel_rfl) (by kernel_rfl) (.tmp rfl .nil)) (.two (.aggU rfl (by rw [hg]; rfl)) (.int (by rw [hg]))) rfl
  have hth : th = true := by simpa using hc0
  refine wp_skip (then_n (wp_seq ?_))
  refine region_q hS
    (cF rfl (oL true 2 101 .is) r1 r1
    (cF rfl (oB [(0, .tmp 16)] [.pointer none, .int .i64 0, .int .i64 0] [(0, 2), (2, 1)] (.agg rfl .t (by kernel_rfl) (by kernel_rfl) .nil)) r1 trivial
    (cF rfl (oX 103 .t) r1 trivial
    (cF rfl (oN .t) r1 trivial
    Chain.nil))))
    hB ?_
  clear hS; intro a w F hS
  replace hS := hS.sub
  obtain ⟨F, hS⟩ := hS.nm [8, 7, 6, 3, 2] [103, 102, 101, 1, 0] rfl rfl
  try dsimp only [RS.sub, SF.sub, CF.sub, csub, Anc.sub, List.map, stCells, xL, xM, Nat.reduceAdd, xD, xE, xT, xU, xC, xN, zCF, ldSF, rCell, rPair] at hS
  generalize Act.tau a 18 = v18 at hS
  refine then_n (wp_seq ?_)
  refine region_q hS
    (cF rfl (oF 0 101 .is) r1 r1
    (cF rfl (oL false 1 101 .adr) r1 r1
    (cF rfl (o_callG1 1 (aLen_c o room q) Try.func89 rfl (by kernel_rfl) (Args.one .t)) r1 r1
    (cF rfl (oN .t) r1 trivial
    Chain.nil))))
    hB ?_
  clear hS; intro a w F hS
  obtain ⟨F, hS⟩ := hS.nm [9, 8, 7, 6, 3, 2] [103, 102, 101, 1, 0] rfl rfl
  try dsimp only [List.map, xD, xE, xT, xU, ldSF, rCell, rPair] at hS
  refine then_n (wp_seq ?_)
  obtain ⟨b, rfl⟩ := hS.shape 103 rfl
  have hS := hS.fresh 4 rfl
  obtain ⟨F, hS⟩ := hS.push 4 1 rfl rfl rfl (by kernel_rfl)
  obtain ⟨F, hS⟩ := hS.push 4 103 rfl rfl rfl (by kernel_rfl)
  have hS := hS.turn 4 rfl (r' := RS.hp (bldH 190 (.pointer (some ⟨b, 0, none⟩)) o root 0 room q)) (fun _ _ _ _ h => h)
  obtain ⟨F, hS⟩ := hS.nm [9, 8, 7, 6, 3, 2] [102, 101, 4, 0] rfl rfl
  refine region_q hS
    (cF rfl (oM .t) r1 trivial
    (cF rfl (oM .t) r1 trivial
    (cF rfl (o_callClos 4 .t (hw hth b) hf hb hnn (Args.one .t)) r2 r1
    (cF rfl (oN .t) r1 trivial
    Chain.nil))))
    hB ?_
  clear hS; intro a w F hS
  obtain ⟨F, hS⟩ := hS.nm [10, 9, 8, 7, 6, 3] [102, 101, 4, 0] rfl rfl
  try dsimp only [rCell, rPair] at hS
  obtain ⟨F, hS⟩ := hS.peel 4 7 rfl rfl
  obtain ⟨F, hS⟩ := hS.peel 4 1 rfl rfl
  obtain ⟨F, hS⟩ := hS.nm [10, 9, 8, 7, 6, 3] [102, 101, 7, 1, 0] rfl rfl
  refine then_n (wp_seq (wp_seq ?_))
  refine region_q hS
    (cF rfl (oM .t) r1 trivial
    (cF rfl (o_nilCheck 7 .is (by rfl)) r1 r1
    (cF rfl (oF 2 7 .adr) r1 r1
    (cF rfl (oL false 1 7 .adr) r1 r1
    (cF rfl (o_neq .t (.ci (by kernel_rfl))) r1 trivial
    Chain.nil)))))
    hB ?_
  clear hS; intro a w F hS
  obtain ⟨F, hS⟩ := hS.nm [29, 10, 9, 8, 7, 6, 3] [102, 101, 7, 1, 0] rfl rfl
  try dsimp only [List.map, xD, xE, xT, xU, ldSF, rCell, rPair] at hS
  refine then_n ?_
  refine cond_b hS rfl (fun hc1 => ?_) (fun hc1 => ?_)
  ·skip
   have hM : M.2.1 ≠ 0 := by simpa using hc1
   have hg : (chgM th q M) = (arCut M.1 q.length, M.2.1, 0) := by rw [hth]; show toldM q.length M = _; unfold toldM; rw [if_pos hM, if_pos hM]
   refine wp_seq ?_
   refine region_q hS
     (cF rfl (oF 0 101 .is) r1 r1
     (cF rfl (oL false 1 101 .adr) r1 r1
     (cF rfl (oM .t) r1 trivial
     (cF rfl (o_callG1 1 (aCut_c o room M.1 q.length) Try.func123 rfl (by kernel_rfl) (Args.two .t .t)) r2 r1
     Chain.nil))))
     hB ?_
   clear hS; intro a w F hS
   obtain ⟨F, hS⟩ := hS.nm [10, 8, 7, 6, 3] [102, 101, 7, 1, 0] rfl rfl
   try dsimp only [List.map, xD, xE, xT, xU, ldSF, rCell, rPair] at hS
   refine then_n (wp_seq ?_)
   refine region_any (by kernel_rfl) hS (by kernel_rfl)
     (cF rfl (oF 0 101 .is) r1 r1
     (cF rfl (oL false 1 101 .adr) r1 r1
     (cF rfl (oP (snew_c o) Try.func28 (Args.one .t)) r1 trivial
     (cF rfl (oM .t) r1 trivial
     (cF rfl (o_nilCheck 7 .is (by rfl)) r1 r1
     (cF rfl (oF 2 7 .adr) r1 r1
     (cF rfl (oL false 1 7 .adr) r1 r1
     (cF rfl (oA 2 102 .is (.conv .t .agg)) r2 r1
     (cF rfl (oN .t) r1 trivial
     Chain.nil)))))))))
     (by kernel_rfl) (by rw [hB]; kernel_rfl) ?_
   clear hS; intro a w F hS
   obtain ⟨F, hS⟩ := hS.nm [10, 7, 6, 3] [102, 101, 7, 1, 0] rfl rfl
   try dsimp only [List.map, stCells, xL, xM, Nat.reduceAdd, xD, xE, xT, xU, xC, xN, zCF, ldSF, rCell, rPair] at hS
   refine then_n (wp_ret (then_r ?_))
   have hS := hS.turn 1 rfl (r' := RS.hp (arH o room (chgM th q M).1)) (fun _ _ _ _ h => by rw [hg]; exact h)
   refine ret_G1 hG hS rfl (.cell (n := 102) (ag := true) (sz := 2) rfl .is rfl (by kernel_rfl) (by kernel_rfl) (by kernel_rfl) (.tmp rfl .nil)) (.two (.aggU rfl (by rw [hg]; rfl)) (.int (by rw [hg]))) rfl
  have hM : M.2.1 = 0 := by simpa using hc1
  have hg : (chgM th q M) = (M.1, 0, M.2.2) := by rw [hth]; show toldM q.length M = _; unfold toldM; rw [if_neg (by omega), if_neg (by omega), hM]
  refine wp_skip (then_n (wp_seq ?_))
  refine region_q hS
    (cF rfl (oF 0 101 .is) r1 r1
    (cF rfl (oL false 1 101 .adr) r1 r1
    (cF rfl (oM .t) r1 trivial
    (cF rfl (oB [(0, .tmp 42), (1, .tmp 43)] [.pointer none, .int .i64 0] [(0, 1), (1, 1)] (.one rfl .t one_is (by kernel_rfl) (.one rfl .t one_int (by kernel_rfl) .nil))) r2 trivial
    (cF rfl (oA 2 102 .is .t) r2 r1
    (cF rfl (oN (.ci (by kernel_rfl))) trivial trivial
    Chain.nil))))))
    hB ?_
  clear hS; intro a w F hS
  obtain ⟨F, hS⟩ := hS.nm [7, 6] [102, 7, 1, 0] rfl rfl
  try dsimp only [List.map, stCells, xL, xM, Nat.reduceAdd, xD, xE, xT, xU, xC, xN, zCF, ldSF, rCell, rPair] at hS
  refine then_n (wp_ret ?_)
  have hS := hS.turn 1 rfl (r' := RS.hp (arH o room (chgM th q M).1)) (fun _ _ _ _ h => by rw [hg]; exact h)
  refine ret_G1 hG hS rfl (.cell (n := 102) (ag := true) (sz := 2) rfl .is rfl (by kernel_rfl) (by kernel_rfl) (by kernel_rfl) (.tmp rfl .nil)) (.two (.aggU rfl (by rw [hg]; rfl)) (.int (by rw [hg]))) rfl

end Go.Proofs.Ytdfidiehkkbimaa
