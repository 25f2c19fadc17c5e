/- The document's words, numbers, commands. No condition beyond those that each theorem says. -/
import Derived.Test.YtjdcnjemhjldoaaGreatDoorCm6
import Derived.Test.YtjdcnjemhjldoaaGreatDoorOp6
import Derived.Test.YtjdcnjemhjldoaaGreatDoorDa2
namespace Go.Proofs.YtjdcnjemhjldoaaGreatDoor
open Go Go.Gm
set_option linter.unusedVariables false
set_option linter.unusedSimpArgs false
set_option maxHeartbeats 4000000
set_option maxRecDepth 8000


theorem said_none {k : Int} (h : ¬ (1 ≤ k ∧ k ≤ 12)) : (saidR k).s = [] := Classical.byContradiction fun hx => h (said_kind hx)
theorem word_nth {k : Int} (h : 1 ≤ k ∧ k ≤ 12) : nth [[], [97, 100, 100], [115, 101, 116], [100, 101, 108], [111, 114, 100], [109, 111, 118], [117, 110, 100, 111], [114, 101, 100, 111], [97, 115, 107], [119, 104, 121], [116, 101, 108, 108], [115, 105, 122, 101], [100, 117, 109, 112]] k.toNat = (saidR k).s := by
  rcases kinds h with rfl | rfl | rfl | rfl | rfl | rfl | rfl | rfl | rfl | rfl | rfl | rfl <;> rfl
theorem code_none {p : Int} (h : ¬ (0 ≤ p ∧ p ≤ 5)) : codeR p = [] := Classical.byContradiction fun hx => h (by have := (code_phen hx).1; omega)
theorem code_nth {p : Int} (h : 0 ≤ p ∧ p ≤ 5) : nth [[], [103, 48], [103, 49, 97], [103, 49, 98], [103, 49, 99], [103, 50]] p.toNat = codeR p := by
  have : p = 0 ∨ p = 1 ∨ p = 2 ∨ p = 3 ∨ p = 4 ∨ p = 5 := by omega
  rcases this with rfl | rfl | rfl | rfl | rfl | rfl <;> rfl
theorem least_nth {k : Int} (h : 1 ≤ k ∧ k ≤ 12) : nth ([0, 3, 3, 2, 2, 4, 1, 1, 1, 2, 2, 1, 1] : List Int) k.toNat = (saidR k).least := by
  rcases kinds h with rfl | rfl | rfl | rfl | rfl | rfl | rfl | rfl | rfl | rfl | rfl | rfl <;> rfl
def mostR (k : Int) : Int := if k = 1 ∨ k = 2 ∨ k = 4 then -1 else (saidR k).least
theorem more_is {k n : Int} (h : 1 ≤ k ∧ k ≤ 12) (hn : n ≤ 1000001) : (decide (0 ≤ mostR k) && decide (mostR k < n)) = decide ((saidR k).most < n) := by
  rcases kinds h with rfl | rfl | rfl | rfl | rfl | rfl | rfl | rfl | rfl | rfl | rfl | rfl <;> (rw [Bool.eq_iff_iff]; simp [mostR, saidR]) <;> omega
theorem cmdD_eq2 (u v : CmdD) : ((((((decide (u.kind = v.kind) && decide (u.tx = v.tx)) && decide (u.order = v.order)) && decide (u.key = v.key)) && decide (u.id = v.id)) && decide (u.place = v.place)) && decide (u.phen = v.phen)) = decide (u = v) := by
  obtain ⟨a1, a2, a3, a5, a6, a7, a8⟩ := u
  obtain ⟨b1, b2, b3, b5, b6, b7, b8⟩ := v
  rw [Bool.eq_iff_iff]
  simp [and_assoc]
theorem restC_flat {c : CmdD} (h : rightC c = true) : textC c = (saidR c.kind).s ++ (restC c).flatMap fun y => 32 :: y := by
  unfold textC
  rw [if_neg (by rw [h]; decide), joinL_flat]

theorem refWord_c (k : Int) : FnP Tryz.prog 39 [.int .i64 k] (.bs (saidR k).s) := by
  refine FnP.mk Tryz.func39 rfl Tryz.ntmps39 rfl ?_
  intro B a w F hB hfr hS
  refine wp_seq ?_
  refine region_seq hS (by kernel_rfl)
    (cF rfl (o_assign (.cs (by kernel_rfl)) (by rfl)) trivial trivial
    Chain.nil)
    (by kernel_rfl) (by rw [hB]; kernel_rfl) ?_
  clear hS; intro a w F hS
  obtain ⟨F, hS⟩ := hS.norm [(0, _), (2, _)] [(0, _)] r2 r1
  refine then_n ?_
  refine wp_seq ?_
  refine region_seq hS (by kernel_rfl)
    (cF rfl (o_buildRow (R := rS) (l := [[], [97, 100, 100], [115, 101, 116], [100, 101, 108], [111, 114, 100], [109, 111, 118], [117, 110, 100, 111], [114, 101, 100, 111], [97, 115, 107], [119, 104, 121], [116, 101, 108, 108], [115, 105, 122, 101], [100, 117, 109, 112]]) (sz := 1) (zs := [.string ⟨#[]⟩]) (r := [(0, _), (1, _), (2, _), (3, _), (4, _), (5, _), (6, _), (7, _), (8, _), (9, _), (10, _), (11, _), (12, _)]) 101 Tryz.underlying40 (by kernel_rfl) (by kernel_rfl) (by kernel_rfl) (by kernel_rfl) rfl rfl (.one rfl (.cs (by kernel_rfl)) one_str (by kernel_rfl) (.one rfl (.cs (by kernel_rfl)) one_str (by kernel_rfl) (.one rfl (.cs (by kernel_rfl)) one_str (by kernel_rfl) (.one rfl (.cs (by kernel_rfl)) one_str (by kernel_rfl) (.one rfl (.cs (by kernel_rfl)) one_str (by kernel_rfl) (.one rfl (.cs (by kernel_rfl)) one_str (by kernel_rfl) (.one rfl (.cs (by kernel_rfl)) one_str (by kernel_rfl) (.one rfl (.cs (by kernel_rfl)) one_str (by kernel_rfl) (.one rfl (.cs (by kernel_rfl)) one_str (by kernel_rfl) (.one rfl (.cs (by kernel_rfl)) one_str (by kernel_rfl) (.one rfl (.cs (by kernel_rfl)) one_str (by kernel_rfl) (.one rfl (.cs (by kernel_rfl)) one_str (by kernel_rfl) (.one rfl (.cs (by kernel_rfl)) one_str (by kernel_rfl) .nil))))))))))))) rfl rfl (by intro x; rfl)) trivial trivial
    (cF rfl (o_assign .t (by rfl)) r1 trivial
    Chain.nil))
    (by kernel_rfl) (by rw [hB]; kernel_rfl) ?_
  clear hS; intro a w F hS
  replace hS := hS.sub
  obtain ⟨F, hS⟩ := hS.norm [(0, _), (2, _), (3, _)] [(0, _), (101, _)] r3 r2
  try dsimp only [RS.sub, SF.sub, CF.sub, csub, Anc.sub, List.map, stCells, List.length_cons, List.length_nil, Nat.reduceAdd, List.drop_succ_cons, List.drop_zero, List.drop_nil, List.take_succ_cons, List.take_zero, List.take_nil, List.cons_append, List.nil_append, zCF] at hS
  generalize Act.tau a 4 = v4 at hS
  refine then_n ?_
  refine wp_seq ?_
  refine wp_seq ?_
  refine region_seq hS (by kernel_rfl)
    (cF rfl (o_move .t (by rfl)) r1 trivial
    (cF rfl (o_lss .t (.ci (by kernel_rfl))) r1 trivial
    (cF rfl (o_move .t (by rfl)) r1 trivial
    (Chain.cons (Cert.cond rfl rfl (fun h => o_move .t (by rfl))) r2 trivial
    (Chain.cons (Cert.cond rfl rfl (fun h => o_gtr (.w h) (.ci (by kernel_rfl)))) r2 trivial
    (cF rfl (o_or2 .t .t) r2 trivial
    Chain.nil))))))
    (by kernel_rfl) (by rw [hB]; kernel_rfl) ?_
  clear hS; intro a w F hS
  obtain ⟨F, hS⟩ := hS.norm [(0, _), (2, _), (3, _), (10, _)] [(0, _), (101, _)] r4 r2
  refine then_n ?_
  refine cond_b hS rfl (fun hc0 => ?_) (fun hc0 => ?_)
  ·skip
   have hg : ([] : List UInt8) = (saidR k).s := (said_none (by simp at hc0; omega)).symm
   refine wp_seq ?_
   refine region_seq hS (by kernel_rfl)
     (cF rfl (o_assign (.cs (by kernel_rfl)) (by rfl)) trivial trivial
     Chain.nil)
     (by kernel_rfl) (by rw [hB]; kernel_rfl) ?_
   clear hS; intro a w F hS
   obtain ⟨F, hS⟩ := hS.norm [(0, _), (2, _), (3, _)] [(0, _), (101, _)] r3 r2
   refine then_n ?_
   refine wp_ret ?_
   refine then_r ?_
   refine ret_P hfr hS rfl (.tmp rfl .nil) (.one (.bs (by first | exact hg | exact word_nth ⟨by omega, by omega⟩)))
  ·skip
   have hk : 1 ≤ k ∧ k ≤ 12 := by simp at hc0; omega
   refine wp_skip ?_
   refine then_n ?_
   refine wp_seq ?_
   obtain ⟨F, hS⟩ := hS.give 101 3 rfl rfl
   obtain ⟨F, hS⟩ := hS.norm [(0, _), (2, _), (3, _), (10, _)] [(0, _)] r4 r1
   refine region_seq hS (by kernel_rfl)
     (cF rfl (o_move .t (by rfl)) r1 trivial
     (cF rfl (o_move .t (by rfl)) r1 trivial
     (cF rfl (o_indexAddr_sl (sz := 1) (.mk Tryz.underlying40 (by kernel_rfl)) (by intro x; rfl) .t .t (by omega) (by simp; omega)) r2 trivial
     (cF rfl (o_load_ref (ag := false) (sz := 1) .t (by kernel_rfl) (by kernel_rfl) (by kernel_rfl)) r1 trivial
     (cF rfl (o_assign .t (by rfl)) r1 trivial
     Chain.nil)))))
     (by kernel_rfl) (by rw [hB]; kernel_rfl) ?_
   clear hS; intro a w F hS
   obtain ⟨F, hS⟩ := hS.norm [(2, _)] [(0, _)] r1 r1
   try dsimp only [List.map, List.drop_succ_cons, List.drop_zero, List.drop_nil, List.take_succ_cons, List.take_zero, List.take_nil, ldSF] at hS
   refine then_n ?_
   refine wp_ret ?_
   refine ret_P hfr hS rfl (.tmp rfl .nil) (.one (.bs (by first | exact hg | exact word_nth ⟨by omega, by omega⟩)))

theorem refCode_c (k : Int) : FnP Tryz.prog 34 [.int .i64 k] (.bs (codeR k)) := by
  refine FnP.mk Tryz.func34 rfl Tryz.ntmps34 rfl ?_
  intro B a w F hB hfr hS
  refine wp_seq ?_
  refine region_seq hS (by kernel_rfl)
    (cF rfl (o_assign (.cs (by kernel_rfl)) (by rfl)) trivial trivial
    Chain.nil)
    (by kernel_rfl) (by rw [hB]; kernel_rfl) ?_
  clear hS; intro a w F hS
  obtain ⟨F, hS⟩ := hS.norm [(0, _), (2, _)] [(0, _)] r2 r1
  refine then_n ?_
  refine wp_seq ?_
  refine region_seq hS (by kernel_rfl)
    (cF rfl (o_buildRow (R := rS) (l := [[], [103, 48], [103, 49, 97], [103, 49, 98], [103, 49, 99], [103, 50]]) (sz := 1) (zs := [.string ⟨#[]⟩]) (r := [(0, _), (1, _), (2, _), (3, _), (4, _), (5, _)]) 101 Tryz.underlying40 (by kernel_rfl) (by kernel_rfl) (by kernel_rfl) (by kernel_rfl) rfl rfl (.one rfl (.cs (by kernel_rfl)) one_str (by kernel_rfl) (.one rfl (.cs (by kernel_rfl)) one_str (by kernel_rfl) (.one rfl (.cs (by kernel_rfl)) one_str (by kernel_rfl) (.one rfl (.cs (by kernel_rfl)) one_str (by kernel_rfl) (.one rfl (.cs (by kernel_rfl)) one_str (by kernel_rfl) (.one rfl (.cs (by kernel_rfl)) one_str (by kernel_rfl) .nil)))))) rfl rfl (by intro x; rfl)) trivial trivial
    (cF rfl (o_assign .t (by rfl)) r1 trivial
    Chain.nil))
    (by kernel_rfl) (by rw [hB]; kernel_rfl) ?_
  clear hS; intro a w F hS
  replace hS := hS.sub
  obtain ⟨F, hS⟩ := hS.norm [(0, _), (2, _), (3, _)] [(0, _), (101, _)] r3 r2
  try dsimp only [RS.sub, SF.sub, CF.sub, csub, Anc.sub, List.map, stCells, List.length_cons, List.length_nil, Nat.reduceAdd, List.drop_succ_cons, List.drop_zero, List.drop_nil, List.take_succ_cons, List.take_zero, List.take_nil, List.cons_append, List.nil_append, zCF] at hS
  generalize Act.tau a 4 = v4 at hS
  refine then_n ?_
  refine wp_seq ?_
  refine wp_seq ?_
  refine region_seq hS (by kernel_rfl)
    (cF rfl (o_move .t (by rfl)) r1 trivial
    (cF rfl (o_lss .t (.ci (by kernel_rfl))) r1 trivial
    (cF rfl (o_move .t (by rfl)) r1 trivial
    (Chain.cons (Cert.cond rfl rfl (fun h => o_move .t (by rfl))) r2 trivial
    (Chain.cons (Cert.cond rfl rfl (fun h => o_gtr (.w h) (.ci (by kernel_rfl)))) r2 trivial
    (cF rfl (o_or2 .t .t) r2 trivial
    Chain.nil))))))
    (by kernel_rfl) (by rw [hB]; kernel_rfl) ?_
  clear hS; intro a w F hS
  obtain ⟨F, hS⟩ := hS.norm [(0, _), (2, _), (3, _), (10, _)] [(0, _), (101, _)] r4 r2
  refine then_n ?_
  refine cond_b hS rfl (fun hc0 => ?_) (fun hc0 => ?_)
  ·skip
   have hg : ([] : List UInt8) = (codeR k) := (code_none (by simp at hc0; omega)).symm
   refine wp_seq ?_
   refine region_seq hS (by kernel_rfl)
     (cF rfl (o_assign (.cs (by kernel_rfl)) (by rfl)) trivial trivial
     Chain.nil)
     (by kernel_rfl) (by rw [hB]; kernel_rfl) ?_
   clear hS; intro a w F hS
   obtain ⟨F, hS⟩ := hS.norm [(0, _), (2, _), (3, _)] [(0, _), (101, _)] r3 r2
   refine then_n ?_
   refine wp_ret ?_
   refine then_r ?_
   refine ret_P hfr hS rfl (.tmp rfl .nil) (.one (.bs (by first | exact hg | exact code_nth ⟨by omega, by omega⟩)))
  ·skip
   have hk : 0 ≤ k ∧ k ≤ 5 := by simp at hc0; omega
   refine wp_skip ?_
   refine then_n ?_
   refine wp_seq ?_
   obtain ⟨F, hS⟩ := hS.give 101 3 rfl rfl
   obtain ⟨F, hS⟩ := hS.norm [(0, _), (2, _), (3, _), (10, _)] [(0, _)] r4 r1
   refine region_seq hS (by kernel_rfl)
     (cF rfl (o_move .t (by rfl)) r1 trivial
     (cF rfl (o_move .t (by rfl)) r1 trivial
     (cF rfl (o_indexAddr_sl (sz := 1) (.mk Tryz.underlying40 (by kernel_rfl)) (by intro x; rfl) .t .t (by omega) (by simp; omega)) r2 trivial
     (cF rfl (o_load_ref (ag := false) (sz := 1) .t (by kernel_rfl) (by kernel_rfl) (by kernel_rfl)) r1 trivial
     (cF rfl (o_assign .t (by rfl)) r1 trivial
     Chain.nil)))))
     (by kernel_rfl) (by rw [hB]; kernel_rfl) ?_
   clear hS; intro a w F hS
   obtain ⟨F, hS⟩ := hS.norm [(2, _)] [(0, _)] r1 r1
   try dsimp only [List.map, List.drop_succ_cons, List.drop_zero, List.drop_nil, List.take_succ_cons, List.take_zero, List.take_nil, ldSF] at hS
   refine then_n ?_
   refine wp_ret ?_
   refine ret_P hfr hS rfl (.tmp rfl .nil) (.one (.bs (by first | exact hg | exact code_nth ⟨by omega, by omega⟩)))

theorem refLeast_c (k : Int) (hk : 1 ≤ k ∧ k ≤ 12) : FnP Tryz.prog 21 [.int .i64 k] (.int .i64 (saidR k).least) := by
  refine FnP.mk Tryz.func21 rfl Tryz.ntmps21 rfl ?_
  intro B a w F hB hfr hS
  refine wp_seq ?_
  refine region_seq hS (by kernel_rfl)
    (cF rfl (o_assign (.ci (by kernel_rfl)) (by rfl)) trivial trivial
    Chain.nil)
    (by kernel_rfl) (by rw [hB]; kernel_rfl) ?_
  clear hS; intro a w F hS
  obtain ⟨F, hS⟩ := hS.norm [(0, _), (2, _)] [(0, _)] r2 r1
  refine then_n ?_
  refine wp_seq ?_
  refine region_seq hS (by kernel_rfl)
    (cF rfl (o_buildRow (R := rInt) (l := [0, 3, 3, 2, 2, 4, 1, 1, 1, 2, 2, 1, 1]) (sz := 1) (zs := [.int .i64 0]) (r := [(0, _), (1, _), (2, _), (3, _), (4, _), (5, _), (6, _), (7, _), (8, _), (9, _), (10, _), (11, _), (12, _)]) 101 Tryz.underlying25 (by kernel_rfl) (by kernel_rfl) (by kernel_rfl) (by kernel_rfl) rfl rfl (.one rfl (.ci (by kernel_rfl)) one_int (by kernel_rfl) (.one rfl (.ci (by kernel_rfl)) one_int (by kernel_rfl) (.one rfl (.ci (by kernel_rfl)) one_int (by kernel_rfl) (.one rfl (.ci (by kernel_rfl)) one_int (by kernel_rfl) (.one rfl (.ci (by kernel_rfl)) one_int (by kernel_rfl) (.one rfl (.ci (by kernel_rfl)) one_int (by kernel_rfl) (.one rfl (.ci (by kernel_rfl)) one_int (by kernel_rfl) (.one rfl (.ci (by kernel_rfl)) one_int (by kernel_rfl) (.one rfl (.ci (by kernel_rfl)) one_int (by kernel_rfl) (.one rfl (.ci (by kernel_rfl)) one_int (by kernel_rfl) (.one rfl (.ci (by kernel_rfl)) one_int (by kernel_rfl) (.one rfl (.ci (by kernel_rfl)) one_int (by kernel_rfl) (.one rfl (.ci (by kernel_rfl)) one_int (by kernel_rfl) .nil))))))))))))) rfl rfl (by intro x; rfl)) trivial trivial
    (cF rfl (o_assign .t (by rfl)) r1 trivial
    Chain.nil))
    (by kernel_rfl) (by rw [hB]; kernel_rfl) ?_
  clear hS; intro a w F hS
  replace hS := hS.sub
  obtain ⟨F, hS⟩ := hS.norm [(0, _), (2, _), (3, _)] [(0, _), (101, _)] r3 r2
  try dsimp only [RS.sub, SF.sub, CF.sub, csub, Anc.sub, List.map, stCells, List.length_cons, List.length_nil, Nat.reduceAdd, List.drop_succ_cons, List.drop_zero, List.drop_nil, List.take_succ_cons, List.take_zero, List.take_nil, List.cons_append, List.nil_append, zCF] at hS
  generalize Act.tau a 4 = v4 at hS
  refine then_n ?_
  refine wp_seq ?_
  obtain ⟨F, hS⟩ := hS.give 101 3 rfl rfl
  obtain ⟨F, hS⟩ := hS.norm [(0, _), (2, _), (3, _)] [(0, _)] r3 r1
  refine region_seq hS (by kernel_rfl)
    (cF rfl (o_move .t (by rfl)) r1 trivial
    (cF rfl (o_move .t (by rfl)) r1 trivial
    (cF rfl (o_indexAddr_sl (sz := 1) (.mk Tryz.underlying25 (by kernel_rfl)) (by intro x; rfl) .t .t (by omega) (by simp; omega)) r2 trivial
    (cF rfl (o_load_ref (ag := false) (sz := 1) .t (by kernel_rfl) (by kernel_rfl) (by kernel_rfl)) r1 trivial
    (cF rfl (o_assign .t (by rfl)) r1 trivial
    Chain.nil)))))
    (by kernel_rfl) (by rw [hB]; kernel_rfl) ?_
  clear hS; intro a w F hS
  obtain ⟨F, hS⟩ := hS.norm [(2, _)] [(0, _)] r1 r1
  try dsimp only [List.map, List.drop_succ_cons, List.drop_zero, List.drop_nil, List.take_succ_cons, List.take_zero, List.take_nil, ldSF] at hS
  refine then_n ?_
  refine wp_ret ?_
  refine ret_P hfr hS rfl (.tmp rfl .nil) (.one (.int (by first | exact hg | exact least_nth ⟨by omega, by omega⟩)))

theorem refMost_c (k : Int) (hk : 1 ≤ k ∧ k ≤ 12) : FnP Tryz.prog 22 [.int .i64 k] (.int .i64 (mostR k)) := by
  refine FnP.mk Tryz.func22 rfl Tryz.ntmps22 rfl ?_
  intro B a w F hB hfr hS
  refine wp_seq ?_
  refine region_seq hS (by kernel_rfl)
    (cF rfl (o_assign (.ci (by kernel_rfl)) (by rfl)) trivial trivial
    Chain.nil)
    (by kernel_rfl) (by rw [hB]; kernel_rfl) ?_
  clear hS; intro a w F hS
  obtain ⟨F, hS⟩ := hS.norm [(0, _), (2, _)] [(0, _)] r2 r1
  refine then_n ?_
  refine wp_seq ?_
  refine wp_seq ?_
  refine region_seq hS (by kernel_rfl)
    (cF rfl (o_move .t (by rfl)) r1 trivial
    (cF rfl (o_eql .t (.ci (by kernel_rfl))) r1 trivial
    (cF rfl (o_move .t (by rfl)) r1 trivial
    (Chain.cons (Cert.cond rfl rfl (fun h => o_move .t (by rfl))) r2 trivial
    (Chain.cons (Cert.cond rfl rfl (fun h => o_eql (.w h) (.ci (by kernel_rfl)))) r2 trivial
    (cF rfl (o_or2 .t .t) r2 trivial
    (cF rfl (o_move .t (by rfl)) r1 trivial
    (Chain.cons (Cert.cond rfl rfl (fun h => o_move .t (by rfl))) r2 trivial
    (Chain.cons (Cert.cond rfl rfl (fun h => o_eql (.w h) (.ci (by kernel_rfl)))) r2 trivial
    (cF rfl (o_or2 .t .t) r2 trivial
    Chain.nil))))))))))
    (by kernel_rfl) (by rw [hB]; kernel_rfl) ?_
  clear hS; intro a w F hS
  obtain ⟨F, hS⟩ := hS.norm [(0, _), (2, _), (12, _)] [(0, _)] r3 r1
  refine then_n ?_
  refine cond_b hS rfl (fun hc0 => ?_) (fun hc0 => ?_)
  ·skip
   have hg : (-1 : Int) = mostR k := by unfold mostR; rw [if_pos (by simp at hc0; omega)]
   refine wp_seq ?_
   refine region_seq hS (by kernel_rfl)
     (cF rfl (o_assign (.ci (by kernel_rfl)) (by rfl)) trivial trivial
     Chain.nil)
     (by kernel_rfl) (by rw [hB]; kernel_rfl) ?_
   clear hS; intro a w F hS
   obtain ⟨F, hS⟩ := hS.norm [(0, _), (2, _)] [(0, _)] r2 r1
   refine then_n ?_
   refine wp_ret ?_
   refine then_r ?_
   refine ret_P hfr hS rfl (.tmp rfl .nil) (.one (.int hg))
  ·skip
   have hg : (saidR k).least = mostR k := by unfold mostR; rw [if_neg (by simp at hc0; omega)]
   refine wp_skip ?_
   refine then_n ?_
   refine wp_seq ?_
   refine region_seq hS (by kernel_rfl)
     (cF rfl (o_move .t (by rfl)) r1 trivial
     (cF rfl (o_callP (refLeast_c k hk) Tryz.func21 rfl (by kernel_rfl) (Args.one .t)) r1 trivial
     (cF rfl (o_assign .t (by rfl)) r1 trivial
     Chain.nil)))
     (by kernel_rfl) (by rw [hB]; kernel_rfl) ?_
   clear hS; intro a w F hS
   obtain ⟨F, hS⟩ := hS.norm [(2, _)] [(0, _)] r1 r1
   refine then_n ?_
   refine wp_ret ?_
   refine ret_P hfr hS rfl (.tmp rfl .nil) (.one (.int hg))

theorem refKind_c (s0 : List UInt8) : FnP Tryz.prog 20 [.bs s0] (.int .i64 (findK s0)) := by
  refine FnP.mk Tryz.func20 rfl Tryz.ntmps20 rfl ?_
  intro B a w F hB hfr hS
  refine wp_seq ?_
  refine region_seq hS (by kernel_rfl)
    (cF rfl (o_assign (.ci (by kernel_rfl)) (by rfl)) trivial trivial
    Chain.nil)
    (by kernel_rfl) (by rw [hB]; kernel_rfl) ?_
  clear hS; intro a w F hS
  obtain ⟨F, hS⟩ := hS.norm [(0, _), (2, _)] [(0, _)] r2 r1
  refine then_n ?_
  refine wp_seq ?_
  refine wp_seq ?_
  refine region_seq hS (by kernel_rfl)
    (cF rfl (o_assign (.ci (by kernel_rfl)) (by rfl)) trivial trivial
    Chain.nil)
    (by kernel_rfl) (by rw [hB]; kernel_rfl) ?_
  clear hS; intro a w F hS
  obtain ⟨F, hS⟩ := hS.norm [(0, _), (2, _), (3, _)] [(0, _)] r3 r1
  refine then_n ?_
  refine wp_block ?_
  obtain ⟨F, hS⟩ := hS.norm [(0, _), (3, _)] [(0, _)] r2 r1
  refine loop_inv (σ := Nat) (fun s => (⟨[(0, .pv (.bs s0)), (3, .pv (.int .i64 (s : Nat)))], [(0, frame B)]⟩ : En)) (fun s => (1 ≤ s ∧ s ≤ 13) ∧ findK s0 = findFrom s0 s (13 - s)) (fun s => 13 - s) 1 hS ⟨by decide, rfl⟩ ?_
  clear hS; intro i a w F hC hS
  try dsimp only at hC
  try dsimp only at hS
  obtain ⟨hi0, hf⟩ := hC
  refine wp_seq ?_
  refine wp_seq ?_
  refine region_seq hS (by kernel_rfl)
    (cF rfl (o_move .t (by rfl)) r1 trivial
    (cF rfl (o_leq .t (.ci (by kernel_rfl))) r1 trivial
    Chain.nil))
    (by kernel_rfl) (by rw [hB]; kernel_rfl) ?_
  clear hS; intro a w F hS
  obtain ⟨F, hS⟩ := hS.norm [(0, _), (3, _), (4, _), (5, _)] [(0, _)] r4 r1
  refine then_n ?_
  refine cond_b hS rfl (fun hc0 => ?_) (fun hc0 => ?_)
  ·skip
   have hi : i < 13 := by have h9 := of_decide_eq_true hc0; omega
   have hfi : findFrom s0 i (13 - i) = if (saidR (i : Int)).s = s0 then (i : Int) else findFrom s0 (i + 1) (13 - (i + 1)) := by rw [show 13 - i = (13 - (i + 1)) + 1 by omega, findFrom]
   refine wp_skip ?_
   refine then_n ?_
   refine wp_seq ?_
   refine wp_block ?_
   refine wp_seq ?_
   refine region_seq hS (by kernel_rfl)
     (cF rfl (o_move .t (by rfl)) r1 trivial
     (cF rfl (o_callP (refWord_c (i : Int)) Tryz.func39 rfl (by kernel_rfl) (Args.one .t)) r1 trivial
     (cF rfl (o_move .t (by rfl)) r1 trivial
     (cF rfl (o_eql_bs Tryz.underlying9 .t .t) r2 trivial
     Chain.nil))))
     (by kernel_rfl) (by rw [hB]; kernel_rfl) ?_
   clear hS; intro a w F hS
   obtain ⟨F, hS⟩ := hS.norm [(0, _), (3, _), (4, _), (5, _), (8, _), (9, _), (10, _), (11, _)] [(0, _)] r8 r1
   refine then_n ?_
   refine cond_b hS rfl (fun hc1 => ?_) (fun hc1 => ?_)
   ·skip
    have hg : (i : Int) = findK s0 := by rw [hf, hfi, if_pos (of_decide_eq_true hc1)]
    refine wp_seq ?_
    refine region_seq hS (by kernel_rfl)
      (cF rfl (o_move .t (by rfl)) r1 trivial
      (cF rfl (o_assign .t (by rfl)) r1 trivial
      Chain.nil))
      (by kernel_rfl) (by rw [hB]; kernel_rfl) ?_
    clear hS; intro a w F hS
    obtain ⟨F, hS⟩ := hS.norm [(0, _), (2, _), (3, _), (4, _), (5, _), (8, _), (9, _), (10, _), (11, _), (12, _)] [(0, _)] ⟨rfl, rfl, rfl, rfl, rfl, rfl, rfl, rfl, rfl, rfl, trivial⟩ r1
    refine then_n ?_
    refine wp_ret ?_
    refine block_r ?_
    refine then_r ?_
    refine then_r ?_
    refine block_r ?_
    refine then_r ?_
    refine ret_P hfr hS rfl (.tmp rfl .nil) (.one (.int hg))
   ·skip
    have hst : findK s0 = findFrom s0 (i + 1) (13 - (i + 1)) := by rw [hf, hfi, if_neg (of_decide_eq_false hc1)]
    refine wp_skip ?_
    refine block_n ?_
    refine then_n ?_
    refine region_seq hS (by kernel_rfl)
      (cF rfl (o_move .t (by rfl)) r1 trivial
      (cF rfl (o_add .t (.ci (by kernel_rfl))) r1 trivial
      (cF rfl (o_assign .t (by rfl)) r1 trivial
      Chain.nil)))
      (by kernel_rfl) (by rw [hB]; kernel_rfl) ?_
    clear hS; intro a w F hS
    obtain ⟨F, hS⟩ := hS.norm [(0, _), (3, _), (4, _), (5, _), (6, _), (7, _), (8, _), (9, _), (10, _), (11, _)] [(0, _)] ⟨rfl, rfl, rfl, rfl, rfl, rfl, rfl, rfl, rfl, rfl, trivial⟩ r1
    refine then_n ?_
    replace hS := hS.ent (i := 3) (s' := .pv (.int .i64 ((i + 1 : Nat) : Int))) rfl (.int (wrap_succ (by omega)))
    obtain ⟨F, hS⟩ := hS.norm [(0, _), (3, _)] [(0, _)] r2 r1
    exact ⟨i + 1, F, ⟨by omega, hst⟩, hS, by omega⟩
  ·skip
   have hg : (0 : Int) = findK s0 := by rw [hf, show i = 13 by have h9 := of_decide_eq_false hc0; omega]; rfl
   refine wp_exit ?_
   refine then_x ?_
   refine then_x ?_
   refine block_x ?_
   refine then_n ?_
   refine wp_seq ?_
   refine region_seq hS (by kernel_rfl)
     (cF rfl (o_assign (.ci (by kernel_rfl)) (by rfl)) trivial trivial
     Chain.nil)
     (by kernel_rfl) (by rw [hB]; kernel_rfl) ?_
   clear hS; intro a w F hS
   obtain ⟨F, hS⟩ := hS.norm [(2, _)] [(0, _)] r1 r1
   refine then_n ?_
   refine wp_ret ?_
   refine ret_P hfr hS rfl (.tmp rfl .nil) (.one (.int hg))

theorem refPhen_c (s0 : List UInt8) : FnP Tryz.prog 24 [.bs s0] (.int .i64 (phenR s0)) := by
  refine FnP.mk Tryz.func24 rfl Tryz.ntmps24 rfl ?_
  intro B a w F hB hfr hS
  refine wp_seq ?_
  refine region_seq hS (by kernel_rfl)
    (cF rfl (o_assign (.ci (by kernel_rfl)) (by rfl)) trivial trivial
    Chain.nil)
    (by kernel_rfl) (by rw [hB]; kernel_rfl) ?_
  clear hS; intro a w F hS
  obtain ⟨F, hS⟩ := hS.norm [(0, _), (2, _)] [(0, _)] r2 r1
  refine then_n ?_
  refine wp_seq ?_
  refine wp_seq ?_
  refine region_seq hS (by kernel_rfl)
    (cF rfl (o_assign (.ci (by kernel_rfl)) (by rfl)) trivial trivial
    Chain.nil)
    (by kernel_rfl) (by rw [hB]; kernel_rfl) ?_
  clear hS; intro a w F hS
  obtain ⟨F, hS⟩ := hS.norm [(0, _), (2, _), (3, _)] [(0, _)] r3 r1
  refine then_n ?_
  refine wp_block ?_
  obtain ⟨F, hS⟩ := hS.norm [(0, _), (3, _)] [(0, _)] r2 r1
  refine loop_inv (σ := Nat) (fun s => (⟨[(0, .pv (.bs s0)), (3, .pv (.int .i64 (s : Nat)))], [(0, frame B)]⟩ : En)) (fun s => (1 ≤ s ∧ s ≤ 6) ∧ phenR s0 = phenFrom s0 s (6 - s)) (fun s => 6 - s) 1 hS ⟨by decide, rfl⟩ ?_
  clear hS; intro i a w F hC hS
  try dsimp only at hC
  try dsimp only at hS
  obtain ⟨hi0, hf⟩ := hC
  refine wp_seq ?_
  refine wp_seq ?_
  refine region_seq hS (by kernel_rfl)
    (cF rfl (o_move .t (by rfl)) r1 trivial
    (cF rfl (o_leq .t (.ci (by kernel_rfl))) r1 trivial
    Chain.nil))
    (by kernel_rfl) (by rw [hB]; kernel_rfl) ?_
  clear hS; intro a w F hS
  obtain ⟨F, hS⟩ := hS.norm [(0, _), (3, _), (4, _), (5, _)] [(0, _)] r4 r1
  refine then_n ?_
  refine cond_b hS rfl (fun hc0 => ?_) (fun hc0 => ?_)
  ·skip
   have hi : i < 6 := by have h9 := of_decide_eq_true hc0; omega
   have hfi : phenFrom s0 i (6 - i) = if codeR (i : Int) = s0 then (i : Int) else phenFrom s0 (i + 1) (6 - (i + 1)) := by rw [show 6 - i = (6 - (i + 1)) + 1 by omega, phenFrom]
   refine wp_skip ?_
   refine then_n ?_
   refine wp_seq ?_
   refine wp_block ?_
   refine wp_seq ?_
   refine region_seq hS (by kernel_rfl)
     (cF rfl (o_move .t (by rfl)) r1 trivial
     (cF rfl (o_callP (refCode_c (i : Int)) Tryz.func34 rfl (by kernel_rfl) (Args.one .t)) r1 trivial
     (cF rfl (o_move .t (by rfl)) r1 trivial
     (cF rfl (o_eql_bs Tryz.underlying9 .t .t) r2 trivial
     Chain.nil))))
     (by kernel_rfl) (by rw [hB]; kernel_rfl) ?_
   clear hS; intro a w F hS
   obtain ⟨F, hS⟩ := hS.norm [(0, _), (3, _), (4, _), (5, _), (8, _), (9, _), (10, _), (11, _)] [(0, _)] r8 r1
   refine then_n ?_
   refine cond_b hS rfl (fun hc1 => ?_) (fun hc1 => ?_)
   ·skip
    have hg : (i : Int) = phenR s0 := by rw [hf, hfi, if_pos (of_decide_eq_true hc1)]
    refine wp_seq ?_
    refine region_seq hS (by kernel_rfl)
      (cF rfl (o_move .t (by rfl)) r1 trivial
      (cF rfl (o_assign .t (by rfl)) r1 trivial
      Chain.nil))
      (by kernel_rfl) (by rw [hB]; kernel_rfl) ?_
    clear hS; intro a w F hS
    obtain ⟨F, hS⟩ := hS.norm [(0, _), (2, _), (3, _), (4, _), (5, _), (8, _), (9, _), (10, _), (11, _), (12, _)] [(0, _)] ⟨rfl, rfl, rfl, rfl, rfl, rfl, rfl, rfl, rfl, rfl, trivial⟩ r1
    refine then_n ?_
    refine wp_ret ?_
    refine block_r ?_
    refine then_r ?_
    refine then_r ?_
    refine block_r ?_
    refine then_r ?_
    refine ret_P hfr hS rfl (.tmp rfl .nil) (.one (.int hg))
   ·skip
    have hst : phenR s0 = phenFrom s0 (i + 1) (6 - (i + 1)) := by rw [hf, hfi, if_neg (of_decide_eq_false hc1)]
    refine wp_skip ?_
    refine block_n ?_
    refine then_n ?_
    refine region_seq hS (by kernel_rfl)
      (cF rfl (o_move .t (by rfl)) r1 trivial
      (cF rfl (o_add .t (.ci (by kernel_rfl))) r1 trivial
      (cF rfl (o_assign .t (by rfl)) r1 trivial
      Chain.nil)))
      (by kernel_rfl) (by rw [hB]; kernel_rfl) ?_
    clear hS; intro a w F hS
    obtain ⟨F, hS⟩ := hS.norm [(0, _), (3, _), (4, _), (5, _), (6, _), (7, _), (8, _), (9, _), (10, _), (11, _)] [(0, _)] ⟨rfl, rfl, rfl, rfl, rfl, rfl, rfl, rfl, rfl, rfl, trivial⟩ r1
    refine then_n ?_
    replace hS := hS.ent (i := 3) (s' := .pv (.int .i64 ((i + 1 : Nat) : Int))) rfl (.int (wrap_succ (by omega)))
    obtain ⟨F, hS⟩ := hS.norm [(0, _), (3, _)] [(0, _)] r2 r1
    exact ⟨i + 1, F, ⟨by omega, hst⟩, hS, by omega⟩
  ·skip
   have hg : (0 : Int) = phenR s0 := by rw [hf, show i = 6 by have h9 := of_decide_eq_false hc0; omega]; rfl
   refine wp_exit ?_
   refine then_x ?_
   refine then_x ?_
   refine block_x ?_
   refine then_n ?_
   refine wp_seq ?_
   refine region_seq hS (by kernel_rfl)
     (cF rfl (o_assign (.ci (by kernel_rfl)) (by rfl)) trivial trivial
     Chain.nil)
     (by kernel_rfl) (by rw [hB]; kernel_rfl) ?_
   clear hS; intro a w F hS
   obtain ⟨F, hS⟩ := hS.norm [(2, _)] [(0, _)] r1 r1
   refine then_n ?_
   refine wp_ret ?_
   refine ret_P hfr hS rfl (.tmp rfl .nil) (.one (.int hg))

theorem refNumbers_c (l : List (List UInt8)) (hs : ∀ x ∈ l, x.length ≤ 1000000) (hn : l.length ≤ 1000000) : FnP Tryz.prog 25 [.sl rS l] (.tup [.sl rInt (numsR l).1, .int .i64 (numsR l).2]) := by
  refine FnP.mk Tryz.func25 rfl Tryz.ntmps25 rfl ?_
  intro B a w F hB hfr hS
  refine wp_seq ?_
  refine region_seq hS (by kernel_rfl)
    (cF rfl (o_assign (.c rfl) (by rfl)) trivial trivial
    (cF rfl (o_assign (.ci (by kernel_rfl)) (by rfl)) trivial trivial
    Chain.nil))
    (by kernel_rfl) (by rw [hB]; kernel_rfl) ?_
  clear hS; intro a w F hS
  obtain ⟨F, hS⟩ := hS.norm [(0, _), (2, _), (3, _)] [(0, _)] r3 r1
  refine then_n ?_
  refine wp_seq ?_
  refine region_seq hS (by kernel_rfl)
    (cF rfl (o_assign (.c rfl) (by rfl)) trivial trivial
    Chain.nil)
    (by kernel_rfl) (by rw [hB]; kernel_rfl) ?_
  clear hS; intro a w F hS
  obtain ⟨F, hS⟩ := hS.norm [(0, _), (2, _), (3, _), (4, _)] [(0, _)] r4 r1
  refine then_n ?_
  refine wp_seq ?_
  refine wp_seq ?_
  refine region_seq hS (by kernel_rfl)
    (cF rfl (o_move .t (by rfl)) r1 trivial
    (cF rfl (o_len_sl Tryz.underlying40 .t) r1 trivial
    (cF rfl (o_move (.ci (by kernel_rfl)) (by rfl)) trivial trivial
    Chain.nil)))
    (by kernel_rfl) (by rw [hB]; kernel_rfl) ?_
  clear hS; intro a w F hS
  obtain ⟨F, hS⟩ := hS.norm [(2, _), (3, _), (4, _), (9, _), (10, _), (11, _)] [(0, _)] r6 r1
  refine then_n ?_
  refine wp_block ?_
  replace hS := hS.fresh 50 rfl
  replace hS := hS.turn 50 rfl (nilRow (T := 3) (sz := 1) (R := rInt))
  obtain ⟨F, hS⟩ := hS.norm [(4, _), (9, _), (10, _), (11, _)] [(0, _), (50, _)] r4 r2
  refine loop_inv (σ := (Nat × Value)) (fun s => (⟨[(4, .pv (.is s.2)), (9, .pv (.sl rS l)), (10, .pv (.int .i64 (l.length : Nat))), (11, .pv (.int .i64 (s.1 : Nat)))], [(0, frame B), (50, .ob (.val s.2) (rowH 3 1 rInt ((valsR l).take s.1)))]⟩ : En)) (fun s => s.1 ≤ l.length ∧ ∀ j, j < s.1 → (readR (nth l j)).2 = 0) (fun s => l.length - s.1) (0, .slice none 0 0) hS ⟨Nat.zero_le _, fun j hj => absurd hj (Nat.not_lt_zero _)⟩ ?_
  clear hS; intro s a w F hC hS
  obtain ⟨i, v⟩ := s
  try dsimp only at hC
  try dsimp only at hS
  obtain ⟨hi0, hz⟩ := hC
  try dsimp only at hi0 hz
  refine wp_seq ?_
  refine region_seq hS (by kernel_rfl)
    (cF rfl (o_lss .t .t) r2 trivial
    Chain.nil)
    (by kernel_rfl) (by rw [hB]; kernel_rfl) ?_
  clear hS; intro a w F hS
  obtain ⟨F, hS⟩ := hS.norm [(4, _), (9, _), (10, _), (11, _), (12, _)] [(0, _), (50, _)] r5 r2
  refine then_n ?_
  refine wp_seq ?_
  refine cond_b hS rfl (fun hc0 => ?_) (fun hc0 => ?_)
  ·skip
   have hi : i < l.length := by have h9 := of_decide_eq_true hc0; omega
   refine wp_skip ?_
   refine then_n ?_
   refine wp_seq ?_
   refine wp_block ?_
   refine wp_seq ?_
   refine region_seq hS (by kernel_rfl)
     (cF rfl (o_indexAddr_sl (sz := 1) (.mk Tryz.underlying40 (by kernel_rfl)) (by intro x; rfl) .t .t (by omega) (by omega)) r2 trivial
     (cF rfl (o_load_ref (ag := false) (sz := 1) .t (by kernel_rfl) (by kernel_rfl) (by kernel_rfl)) r1 trivial
     (cF rfl (o_assign .t (by rfl)) r1 trivial
     Chain.nil)))
     (by kernel_rfl) (by rw [hB]; kernel_rfl) ?_
   clear hS; intro a w F hS
   obtain ⟨F, hS⟩ := hS.norm [(4, _), (6, _), (9, _), (10, _), (11, _), (12, _), (13, _), (14, _)] [(0, _), (50, _)] r8 r2
   try dsimp only [List.map, List.drop_succ_cons, List.drop_zero, List.drop_nil, List.take_succ_cons, List.take_zero, List.take_nil, ldSF] at hS
   rw [Int.toNat_natCast] at hS
   refine then_n ?_
   refine wp_seq ?_
   refine region_seq hS (by kernel_rfl)
     (cF rfl (o_move .t (by rfl)) r1 trivial
     (cF rfl (o_callP (refRead_c (nth l i) (by have h9 := hs _ (nth_mem hi); omega)) Tryz.func49 rfl (by kernel_rfl) (Args.one .t)) r1 trivial
     (cF rfl (o_move .t (by rfl)) r1 trivial
     (cF rfl (o_extract .t rfl) r1 trivial
     (cF rfl (o_extract .t rfl) r1 trivial
     (cF rfl (o_assign .t (by rfl)) r1 trivial
     (cF rfl (o_assign .t (by rfl)) r1 trivial
     Chain.nil)))))))
     (by kernel_rfl) (by rw [hB]; kernel_rfl) ?_
   clear hS; intro a w F hS
   obtain ⟨F, hS⟩ := hS.norm [(4, _), (6, _), (7, _), (8, _), (9, _), (10, _), (11, _), (12, _), (13, _), (14, _), (15, _), (16, _), (17, _), (18, _), (19, _)] [(0, _), (50, _)] ⟨rfl, rfl, rfl, rfl, rfl, rfl, rfl, rfl, rfl, rfl, rfl, rfl, rfl, rfl, rfl, trivial⟩ r2
   refine then_n ?_
   refine wp_seq ?_
   refine wp_seq ?_
   refine region_seq hS (by kernel_rfl)
     (cF rfl (o_move .t (by rfl)) r1 trivial
     (cF rfl (o_neq .t (.ci (by kernel_rfl))) r1 trivial
     Chain.nil))
     (by kernel_rfl) (by rw [hB]; kernel_rfl) ?_
   clear hS; intro a w F hS
   obtain ⟨F, hS⟩ := hS.norm [(4, _), (6, _), (7, _), (8, _), (9, _), (10, _), (11, _), (12, _), (13, _), (14, _), (15, _), (16, _), (17, _), (18, _), (19, _), (20, _), (21, _)] [(0, _), (50, _)] ⟨rfl, rfl, rfl, rfl, rfl, rfl, rfl, rfl, rfl, rfl, rfl, rfl, rfl, rfl, rfl, rfl, rfl, trivial⟩ r2
   refine then_n ?_
   refine cond_b hS rfl (fun hc1 => ?_) (fun hc1 => ?_)
   ·skip
    have hw : (readR (nth l i)).2 ≠ 0 := by simpa using hc1
    have hb := bad_at hi hz hw
    have hr : numsR l = ([], (readR (nth l i)).2) := by unfold numsR; rw [if_pos (by rw [hb]; exact hw), hb]
    refine wp_seq ?_
    refine region_seq hS (by kernel_rfl)
      (cF rfl (o_move .t (by rfl)) r1 trivial
      (cF rfl (o_assign (.c rfl) (by rfl)) trivial trivial
      (cF rfl (o_assign .t (by rfl)) r1 trivial
      Chain.nil)))
      (by kernel_rfl) (by rw [hB]; kernel_rfl) ?_
    clear hS; intro a w F hS
    obtain ⟨F, hS⟩ := hS.norm [(2, _), (3, _), (4, _), (6, _), (7, _), (8, _), (9, _), (10, _), (11, _), (12, _), (13, _), (14, _), (15, _), (16, _), (17, _), (18, _), (19, _), (20, _), (21, _), (22, _)] [(0, _), (50, _)] ⟨rfl, rfl, rfl, rfl, rfl, rfl, rfl, rfl, rfl, rfl, rfl, rfl, rfl, rfl, rfl, rfl, rfl, rfl, rfl, rfl, trivial⟩ r2
    refine then_n ?_
    refine wp_ret ?_
    refine then_r ?_
    refine block_r ?_
    refine then_r ?_
    refine then_r ?_
    refine block_r ?_
    refine then_r ?_
    refine ret_P hfr hS rfl (.tmp rfl (.tmp rfl .nil)) (.two (.trans .nilSl (.sl (by rw [hr]))) (.int (by rw [hr])))
   ·skip
    have hzi : (readR (nth l i)).2 = 0 := by simpa using hc1
    refine wp_skip ?_
    refine then_n ?_
    refine region_seq hS (by kernel_rfl)
      (cF rfl (o_move .t (by rfl)) r1 trivial
      (cF rfl (o_move .t (by rfl)) r1 trivial
      (cF rfl (o_buildSliceE (sz := 1) (zs := [.int .i64 0]) (r := [(0, .tmp 24)]) (l := [_]) Tryz.underlying25 (by kernel_rfl) (by kernel_rfl) (by kernel_rfl) (by kernel_rfl) rfl rfl (.one rfl .t one_int (by kernel_rfl) .nil) rfl) r1 trivial
      (cF rfl (o_append (sz := 1) (bs := 8) 50 (.mk' Tryz.underlying25 (by kernel_rfl) (by kernel_rfl)) (by intro x; rfl) .is (.arr (l' := [(readR (nth l i)).1]) .t) (by simp only [List.length_cons, List.length_nil, List.length_take]; rw [vals_len]; omega) (by decide)) ⟨rfl, rfl, trivial⟩ ⟨rfl, trivial⟩
      (cF rfl (o_assign .t (by rfl)) r1 trivial
      Chain.nil)))))
      (by kernel_rfl) (by rw [hB]; kernel_rfl) ?_
    clear hS; intro a w F hS
    replace hS := hS.sub
    obtain ⟨F, hS⟩ := hS.norm [(4, _), (6, _), (7, _), (8, _), (9, _), (10, _), (11, _), (12, _), (13, _), (14, _), (15, _), (16, _), (17, _), (18, _), (19, _), (20, _), (21, _), (23, _), (24, _), (25, _), (26, _)] [(0, _), (50, _)] ⟨rfl, rfl, rfl, rfl, rfl, rfl, rfl, rfl, rfl, rfl, rfl, rfl, rfl, rfl, rfl, rfl, rfl, rfl, rfl, rfl, rfl, trivial⟩ r2
    try dsimp only [RS.sub, SF.sub, CF.sub, csub, Anc.sub, List.map, stCells, List.length_cons, List.length_nil, Nat.reduceAdd, List.drop_succ_cons, List.drop_zero, List.drop_nil, List.take_succ_cons, List.take_zero, List.take_nil, List.cons_append, List.nil_append, zCF] at hS
    generalize Act.tau a 26 = v26 at hS
    refine block_n ?_
    refine then_n ?_
    refine region_seq hS (by kernel_rfl)
      (cF rfl (o_add .t (.ci (by kernel_rfl))) r1 trivial
      (cF rfl (o_move .t (by rfl)) r1 trivial
      Chain.nil))
      (by kernel_rfl) (by rw [hB]; kernel_rfl) ?_
    clear hS; intro a w F hS
    obtain ⟨F, hS⟩ := hS.norm [(4, _), (6, _), (7, _), (8, _), (9, _), (10, _), (11, _), (12, _), (13, _), (14, _), (15, _), (16, _), (17, _), (18, _), (19, _), (20, _), (21, _), (23, _), (24, _), (25, _), (26, _), (27, _)] [(0, _), (50, _)] ⟨rfl, rfl, rfl, rfl, rfl, rfl, rfl, rfl, rfl, rfl, rfl, rfl, rfl, rfl, rfl, rfl, rfl, rfl, rfl, rfl, rfl, rfl, trivial⟩ r2
    refine then_n ?_
    rw [show (valsR l).take i ++ [(readR (nth l i)).1] = (valsR l).take (i + 1) from map_take_next (f := fun x => (readR x).1) (by omega)] at hS
    replace hS := hS.ent (i := 11) (s' := .pv (.int .i64 ((i + 1 : Nat) : Int))) rfl (.int (wrap_succ (by omega)))
    obtain ⟨F, hS⟩ := hS.norm [(4, _), (9, _), (10, _), (11, _)] [(0, _), (50, _)] r4 r2
    exact ⟨(i + 1, v26), F, ⟨by dsimp only; omega, fun j hj => (Nat.lt_or_ge j i).elim (hz j) (fun h1 => (show i = j by dsimp only at hj; omega) ▸ hzi)⟩, hS, by dsimp only; omega⟩
  ·skip
   have hil : i = l.length := by have h9 := of_decide_eq_false hc0; omega
   have hbz := bad_none (l := l) (fun j hj => hz j (by omega))
   have hr : numsR l = (valsR l, 0) := by unfold numsR; rw [if_neg (by rw [hbz]; decide)]
   rw [show (valsR l).take i = valsR l from List.take_of_length_le (by rw [vals_len]; omega)] at hS
   refine wp_exit ?_
   refine then_x ?_
   refine then_x ?_
   refine block_x ?_
   refine then_n ?_
   refine wp_seq ?_
   obtain ⟨F, hS⟩ := hS.give 50 4 rfl rfl
   obtain ⟨F, hS⟩ := hS.norm [(4, _), (9, _), (10, _), (11, _), (12, _)] [(0, _)] r5 r1
   refine region_seq hS (by kernel_rfl)
     (cF rfl (o_move .t (by rfl)) r1 trivial
     (cF rfl (o_assign .t (by rfl)) r1 trivial
     (cF rfl (o_assign (.ci (by kernel_rfl)) (by rfl)) trivial trivial
     Chain.nil)))
     (by kernel_rfl) (by rw [hB]; kernel_rfl) ?_
   clear hS; intro a w F hS
   obtain ⟨F, hS⟩ := hS.norm [(2, _), (3, _)] [(0, _)] r2 r1
   refine then_n ?_
   refine wp_ret ?_
   refine ret_P hfr hS rfl (.tmp rfl (.tmp rfl .nil)) (.two (.sl (by rw [hr])) (.int (by rw [hr])))

theorem refNumber_c (n : Int) : FnP Tryz.prog 32 [.int .i64 n] (.bool (numB n)) := by
  refine FnP.mk Tryz.func32 rfl Tryz.ntmps32 rfl ?_
  intro B a w F hB hfr hS
  refine wp_seq ?_
  refine region_seq hS (by kernel_rfl)
    (cF rfl (o_assign .cb (by rfl)) trivial trivial
    Chain.nil)
    (by kernel_rfl) (by rw [hB]; kernel_rfl) ?_
  clear hS; intro a w F hS
  obtain ⟨F, hS⟩ := hS.norm [(0, _), (2, _)] [(0, _)] r2 r1
  refine then_n ?_
  refine wp_seq ?_
  refine region_seq hS (by kernel_rfl)
    (cF rfl (o_move .t (by rfl)) r1 trivial
    (cF rfl (o_geq .t (.ci (by kernel_rfl))) r1 trivial
    (cF rfl (o_move .t (by rfl)) r1 trivial
    (Chain.cons (Cert.cond rfl rfl (fun h => o_move .t (by rfl))) r2 trivial
    (Chain.cons (Cert.cond rfl rfl (fun h => o_leq (.w h) (.ci (by kernel_rfl)))) r2 trivial
    (cF rfl (o_and2 .t .t) r2 trivial
    (cF rfl (o_assign .t (by rfl)) r1 trivial
    Chain.nil)))))))
    (by kernel_rfl) (by rw [hB]; kernel_rfl) ?_
  clear hS; intro a w F hS
  obtain ⟨F, hS⟩ := hS.norm [(2, _)] [(0, _)] r1 r1
  refine then_n ?_
  refine wp_ret ?_
  refine ret_P hfr hS rfl (.tmp rfl .nil) (.one (.bool rfl))

theorem refCmdSame_c (u v : CmdD) : FnP Tryz.prog 7 [.agg (rCmd u), .agg (rCmd v)] (.bool (decide (u = v))) := by
  refine FnP.mk Tryz.func7 rfl Tryz.ntmps7 rfl ?_
  intro B a w F hB hfr hS
  refine wp_seq ?_
  refine region_seq hS (by kernel_rfl)
    (cF rfl (o_boxA 101 (.conv .t .agg) (by kernel_rfl)) r1 trivial
    (cF rfl (o_boxA 102 (.conv .t .agg) (by kernel_rfl)) r1 trivial
    (cF rfl (o_assign .cb (by rfl)) trivial trivial
    Chain.nil)))
    (by kernel_rfl) (by rw [hB]; kernel_rfl) ?_
  clear hS; intro a w F hS
  replace hS := hS.sub
  obtain ⟨F, hS⟩ := hS.norm [(2, _), (3, _), (4, _)] [(0, _), (101, _), (102, _)] r3 r3
  try dsimp only [RS.sub, SF.sub, CF.sub, csub, Anc.sub, List.map, zCF, rCmd] at hS
  generalize Act.tau a 2 = v2 at hS
  generalize Act.tau a 3 = v3 at hS
  refine then_n ?_
  refine wp_seq ?_
  refine region_seqN hS (by kernel_rfl)
    (cG rfl (o_fieldAddr (off := 0) 101 .is (by kernel_rfl) (by rfl)) r1 r1
    (cG rfl (o_load (ag := false) (sz := 1) 101 .adr (by kernel_rfl) (by kernel_rfl) (by kernel_rfl) (by rfl)) r1 r1
    (cG rfl (o_fieldAddr (off := 0) 102 .is (by kernel_rfl) (by rfl)) r1 r1
    (cG rfl (o_load (ag := false) (sz := 1) 102 .adr (by kernel_rfl) (by kernel_rfl) (by kernel_rfl) (by rfl)) r1 r1
    (cG rfl (o_eql .t .t) r2 trivial
    (cG rfl (o_move .t (by rfl)) r1 trivial
    (ChainN.cons (Cert.cond rfl rfl (fun h => o_fieldAddr (off := 1) 101 .is (by kernel_rfl) (by rfl))) r2 r1
    (ChainN.cons (Cert.cond rfl rfl (fun h => o_load (ag := true) (sz := 3) 101 (.w h .adr) (by kernel_rfl) (by kernel_rfl) (by kernel_rfl) (by rfl))) r2 r1
    (ChainN.cons (Cert.cond rfl rfl (fun h => o_fieldAddr (off := 1) 102 .is (by kernel_rfl) (by rfl))) r2 r1
    (ChainN.cons (Cert.cond rfl rfl (fun h => o_load (ag := true) (sz := 3) 102 (.w h .adr) (by kernel_rfl) (by kernel_rfl) (by kernel_rfl) (by rfl))) r2 r1
    (ChainN.cons (Cert.cond rfl rfl (fun h => o_callP (sameTx_c u.tx v.tx) Tryz.func26 rfl (by kernel_rfl) (Args.two (.pagg (.w h)) (.pagg (.w h))))) r3 trivial
    (cG rfl (o_and2 .t .t) r2 trivial
    (cG rfl (o_move .t (by rfl)) r1 trivial
    (ChainN.cons (Cert.cond rfl rfl (fun h => o_fieldAddr (off := 4) 101 .is (by kernel_rfl) (by rfl))) r2 r1
    (ChainN.cons (Cert.cond rfl rfl (fun h => o_load (ag := true) (sz := 2) 101 (.w h .adr) (by kernel_rfl) (by kernel_rfl) (by kernel_rfl) (by rfl))) r2 r1
    (ChainN.cons (Cert.cond rfl rfl (fun h => o_fieldAddr (off := 4) 102 .is (by kernel_rfl) (by rfl))) r2 r1
    (ChainN.cons (Cert.cond rfl rfl (fun h => o_load (ag := true) (sz := 2) 102 (.w h .adr) (by kernel_rfl) (by kernel_rfl) (by kernel_rfl) (by rfl))) r2 r1
    (ChainN.cons (Cert.cond rfl rfl (fun h => o_callP (sameOrder_c u.order v.order) Tryz.func27 rfl (by kernel_rfl) (Args.two (.pagg (.w h)) (.pagg (.w h))))) r3 trivial
    (cG rfl (o_and2 .t .t) r2 trivial
    (cG rfl (o_move .t (by rfl)) r1 trivial
    (ChainN.cons (Cert.cond rfl rfl (fun h => o_fieldAddr (off := 6) 101 .is (by kernel_rfl) (by rfl))) r2 r1
    (ChainN.cons (Cert.cond rfl rfl (fun h => o_load (ag := false) (sz := 1) 101 (.w h .adr) (by kernel_rfl) (by kernel_rfl) (by kernel_rfl) (by rfl))) r2 r1
    (ChainN.cons (Cert.cond rfl rfl (fun h => o_fieldAddr (off := 6) 102 .is (by kernel_rfl) (by rfl))) r2 r1
    (ChainN.cons (Cert.cond rfl rfl (fun h => o_load (ag := false) (sz := 1) 102 (.w h .adr) (by kernel_rfl) (by kernel_rfl) (by kernel_rfl) (by rfl))) r2 r1
    (ChainN.norm [(2, _), (3, _), (4, _), (24, _), (26, _), (28, _)] [(0, _), (101, _), (102, _)] r6 r3
    (ChainN.cons (Cert.cond rfl rfl (fun h => o_eql (.w h) (.w h))) r3 trivial
    (cG rfl (o_and2 .t .t) r2 trivial
    (cG rfl (o_move .t (by rfl)) r1 trivial
    (ChainN.cons (Cert.cond rfl rfl (fun h => o_fieldAddr (off := 7) 101 .is (by kernel_rfl) (by rfl))) r2 r1
    (ChainN.cons (Cert.cond rfl rfl (fun h => o_load (ag := false) (sz := 1) 101 (.w h .adr) (by kernel_rfl) (by kernel_rfl) (by kernel_rfl) (by rfl))) r2 r1
    (ChainN.cons (Cert.cond rfl rfl (fun h => o_fieldAddr (off := 7) 102 .is (by kernel_rfl) (by rfl))) r2 r1
    (ChainN.cons (Cert.cond rfl rfl (fun h => o_load (ag := false) (sz := 1) 102 (.w h .adr) (by kernel_rfl) (by kernel_rfl) (by kernel_rfl) (by rfl))) r2 r1
    (ChainN.cons (Cert.cond rfl rfl (fun h => o_eql (.w h) (.w h))) r3 trivial
    (cG rfl (o_and2 .t .t) r2 trivial
    (cG rfl (o_move .t (by rfl)) r1 trivial
    (ChainN.cons (Cert.cond rfl rfl (fun h => o_fieldAddr (off := 8) 101 .is (by kernel_rfl) (by rfl))) r2 r1
    (ChainN.cons (Cert.cond rfl rfl (fun h => o_load (ag := false) (sz := 1) 101 (.w h .adr) (by kernel_rfl) (by kernel_rfl) (by kernel_rfl) (by rfl))) r2 r1
    (ChainN.cons (Cert.cond rfl rfl (fun h => o_fieldAddr (off := 8) 102 .is (by kernel_rfl) (by rfl))) r2 r1
    (ChainN.cons (Cert.cond rfl rfl (fun h => o_load (ag := false) (sz := 1) 102 (.w h .adr) (by kernel_rfl) (by kernel_rfl) (by kernel_rfl) (by rfl))) r2 r1
    (ChainN.cons (Cert.cond rfl rfl (fun h => o_eql (.w h) (.w h))) r3 trivial
    (cG rfl (o_and2 .t .t) r2 trivial
    (cG rfl (o_move .t (by rfl)) r1 trivial
    (ChainN.cons (Cert.cond rfl rfl (fun h => o_fieldAddr (off := 9) 101 .is (by kernel_rfl) (by rfl))) r2 r1
    (ChainN.cons (Cert.cond rfl rfl (fun h => o_load (ag := false) (sz := 1) 101 (.w h .adr) (by kernel_rfl) (by kernel_rfl) (by kernel_rfl) (by rfl))) r2 r1
    (ChainN.cons (Cert.cond rfl rfl (fun h => o_fieldAddr (off := 9) 102 .is (by kernel_rfl) (by rfl))) r2 r1
    (ChainN.cons (Cert.cond rfl rfl (fun h => o_load (ag := false) (sz := 1) 102 (.w h .adr) (by kernel_rfl) (by kernel_rfl) (by kernel_rfl) (by rfl))) r2 r1
    (ChainN.cons (Cert.cond rfl rfl (fun h => o_eql (.w h) (.w h))) r3 trivial
    (cG rfl (o_and2 .t .t) r2 trivial
    (cG rfl (o_assign .t (by rfl)) r1 trivial
    ChainN.nil)))))))))))))))))))))))))))))))))))))))))))))))))
    (by kernel_rfl) (by rw [hB]; kernel_rfl) ?_
  clear hS; intro a w F hS
  obtain ⟨F, hS⟩ := hS.norm [(4, _)] [(0, _), (101, _), (102, _)] r1 r3
  try dsimp only [List.map, List.drop_succ_cons, List.drop_zero, List.drop_nil, List.take_succ_cons, List.take_zero, List.take_nil, ldSF, rCmd] at hS
  refine then_n ?_
  refine wp_ret ?_
  refine ret_P hfr hS rfl (.tmp rfl .nil) (.one (.bool (cmdD_eq2 u v)))

theorem bare_c (c : CmdD) : FnP Tryz.prog 31 [.agg (rCmd c)] (.agg (rCmd (usedR c))) := by
  refine FnP.mk Tryz.func31 rfl Tryz.ntmps31 rfl ?_
  intro B a w F hB hfr hS
  refine wp_seq ?_
  refine region_seq hS (by kernel_rfl)
    (cF rfl (o_boxA 101 (.conv .t .agg) (by kernel_rfl)) r1 trivial
    (cF rfl (o_alloc (zs := [.int .i64 0, .int .i64 0, .bool false, .slice none 0 0, .int .i64 0, .slice none 0 0, .int .i64 0, .int .i64 0, .int .i64 0, .int .i64 0]) 102 (by kernel_rfl)) trivial trivial
    Chain.nil))
    (by kernel_rfl) (by rw [hB]; kernel_rfl) ?_
  clear hS; intro a w F hS
  replace hS := hS.sub
  obtain ⟨F, hS⟩ := hS.norm [(1, _), (2, _)] [(0, _), (101, _), (102, _)] r2 r3
  try dsimp only [RS.sub, SF.sub, CF.sub, csub, Anc.sub, List.map, zCF, rCmd] at hS
  generalize Act.tau a 1 = v1 at hS
  generalize Act.tau a 2 = v2 at hS
  refine then_n ?_
  refine wp_seq ?_
  refine region_seq hS (by kernel_rfl)
    (cF rfl (o_fieldAddr (off := 0) 101 .is (by kernel_rfl) (by rfl)) r1 r1
    (cF rfl (o_load (ag := false) (sz := 1) 101 .adr (by kernel_rfl) (by kernel_rfl) (by kernel_rfl) (by rfl)) r1 r1
    (cF rfl (o_build (r := [(0, .tmp 5)]) (zs := [.int .i64 0, .int .i64 0, .bool false, .slice none 0 0, .int .i64 0, .slice none 0 0, .int .i64 0, .int .i64 0, .int .i64 0, .int .i64 0]) (pl := [(0, 1), (1, 3), (4, 2), (6, 1), (7, 1), (8, 1), (9, 1)]) (by kernel_rfl) (by kernel_rfl) (.one rfl .t one_int (by kernel_rfl) .nil) (by rfl)) r1 trivial
    (cF rfl (o_alloc (zs := [.int .i64 0, .int .i64 0, .bool false, .slice none 0 0, .int .i64 0, .slice none 0 0, .int .i64 0, .int .i64 0, .int .i64 0, .int .i64 0]) 103 (by kernel_rfl)) trivial trivial
    (cF rfl (o_storeA (sz := 10) 103 .same .t (by kernel_rfl) (by kernel_rfl) (by kernel_rfl)) r2 r1
    Chain.nil)))))
    (by kernel_rfl) (by rw [hB]; kernel_rfl) ?_
  clear hS; intro a w F hS
  replace hS := hS.sub
  obtain ⟨F, hS⟩ := hS.norm [(1, _), (2, _), (3, _)] [(0, _), (101, _), (102, _), (103, _)] r3 r4
  try dsimp only [RS.sub, SF.sub, CF.sub, csub, Anc.sub, List.map, stCells, List.length_cons, List.length_nil, Nat.reduceAdd, List.drop_succ_cons, List.drop_zero, List.drop_nil, List.take_succ_cons, List.take_zero, List.take_nil, List.cons_append, List.nil_append, zCF, ldSF, rCmd] at hS
  generalize Act.tau a 3 = v3 at hS
  refine then_n ?_
  refine wp_seq ?_
  refine wp_seq ?_
  refine region_seq hS (by kernel_rfl)
    (cF rfl (o_fieldAddr (off := 0) 101 .is (by kernel_rfl) (by rfl)) r1 r1
    (cF rfl (o_load (ag := false) (sz := 1) 101 .adr (by kernel_rfl) (by kernel_rfl) (by kernel_rfl) (by rfl)) r1 r1
    Chain.nil))
    (by kernel_rfl) (by rw [hB]; kernel_rfl) ?_
  clear hS; intro a w F hS
  obtain ⟨F, hS⟩ := hS.norm [(1, _), (2, _), (3, _), (8, _)] [(0, _), (101, _), (102, _), (103, _)] r4 r4
  try dsimp only [List.map, List.drop_succ_cons, List.drop_zero, List.drop_nil, List.take_succ_cons, List.take_zero, List.take_nil, ldSF, rCmd] at hS
  refine then_n ?_
  refine wp_block ?_
  refine wp_seq ?_
  refine wp_seq ?_
  refine region_seq hS (by kernel_rfl)
    (cF rfl (o_eql .t (.ci (by kernel_rfl))) r1 trivial
    (cF rfl (o_assign .t (by rfl)) r1 trivial
    Chain.nil))
    (by kernel_rfl) (by rw [hB]; kernel_rfl) ?_
  clear hS; intro a w F hS
  obtain ⟨F, hS⟩ := hS.norm [(1, _), (2, _), (3, _), (8, _), (9, _)] [(0, _), (101, _), (102, _), (103, _)] r5 r4
  try dsimp only [rCmd] at hS
  refine then_n ?_
  refine cond_b hS rfl (fun hc0 => ?_) (fun hc0 => ?_)
  ·skip
   have hk : c.kind = 1 ∨ c.kind = 2 := by first | exact .inl (of_decide_eq_true hc0) | exact .inr (of_decide_eq_true hc0)
   have hr : usedR c = {zeroC c.kind with tx := c.tx} := by unfold usedR; rw [if_pos hk]
   refine wp_skip ?_
   refine then_n ?_
   refine cond_b hS rfl (fun hc1 => ?_) (fun hc1 => ?_)
   ·skip
    have hk : c.kind = 1 ∨ c.kind = 2 := by first | exact .inl (of_decide_eq_true hc1) | exact .inr (of_decide_eq_true hc1)
    have hr : usedR c = {zeroC c.kind with tx := c.tx} := by unfold usedR; rw [if_pos hk]
    refine region_seq hS (by kernel_rfl)
      (cF rfl (o_fieldAddr (off := 1) 101 .is (by kernel_rfl) (by rfl)) r1 r1
      (cF rfl (o_load (ag := true) (sz := 3) 101 .adr (by kernel_rfl) (by kernel_rfl) (by kernel_rfl) (by rfl)) r1 r1
      (cF rfl (o_fieldAddr (off := 1) 103 .is (by kernel_rfl) (by rfl)) r1 r1
      (cF rfl (o_storeA (sz := 3) 103 .adr .t (by kernel_rfl) (by kernel_rfl) (by kernel_rfl)) r2 r1
      Chain.nil))))
      (by kernel_rfl) (by rw [hB]; kernel_rfl) ?_
    clear hS; intro a w F hS
    obtain ⟨F, hS⟩ := hS.norm [(2, _), (3, _)] [(0, _), (101, _), (102, _), (103, _)] r2 r4
    try dsimp only [List.map, stCells, List.length_cons, List.length_nil, Nat.reduceAdd, List.drop_succ_cons, List.drop_zero, List.drop_nil, List.take_succ_cons, List.take_zero, List.take_nil, List.cons_append, List.nil_append, zCF, ldSF, rCmd] at hS
    refine block_n ?_
    refine then_n ?_
    refine wp_seq ?_
    refine region_seq hS (by kernel_rfl)
      (cF rfl (o_load (ag := true) (sz := 10) 103 .is (by kernel_rfl) (by kernel_rfl) (by kernel_rfl) (by rfl)) r1 r1
      (cF rfl (o_storeA (sz := 10) 102 .is .t (by kernel_rfl) (by kernel_rfl) (by kernel_rfl)) r2 r1
      Chain.nil))
      (by kernel_rfl) (by rw [hB]; kernel_rfl) ?_
    clear hS; intro a w F hS
    obtain ⟨F, hS⟩ := hS.norm [(2, _)] [(0, _), (101, _), (102, _), (103, _)] r1 r4
    try dsimp only [List.map, stCells, List.length_cons, List.length_nil, Nat.reduceAdd, List.drop_succ_cons, List.drop_zero, List.drop_nil, List.take_succ_cons, List.take_zero, List.take_nil, List.cons_append, List.nil_append, zCF, ldSF, rCmd] at hS
    refine then_n ?_
    refine wp_ret ?_
    refine ret_P hfr hS rfl (.cell (n := 102) (ag := true) (sz := 10) rfl .is rfl (by kernel_rfl) (by kernel_rfl) (by kernel_rfl) .nil) (.one (.aggLe rfl (by rw [hr]; exact (by refine ⟨?_, ?_, ?_, ?_, ?_, ?_, ?_, ?_, ?_, ?_, trivial⟩ <;> first | exact PVLe.refl | exact PVLe.nilSl))))
   ·exact Bool.noConfusion (hc0.symm.trans hc1)
  ·skip
   have hn := of_decide_eq_false hc0
   refine region_seq hS (by kernel_rfl)
     (cF rfl (o_eql .t (.ci (by kernel_rfl))) r1 trivial
     (cF rfl (o_assign .t (by rfl)) r1 trivial
     Chain.nil))
     (by kernel_rfl) (by rw [hB]; kernel_rfl) ?_
   clear hS; intro a w F hS
   obtain ⟨F, hS⟩ := hS.norm [(1, _), (2, _), (3, _), (8, _), (9, _)] [(0, _), (101, _), (102, _), (103, _)] r5 r4
   try dsimp only [rCmd] at hS
   refine then_n ?_
   refine cond_b hS rfl (fun hc2 => ?_) (fun hc2 => ?_)
   ·skip
    have hk : c.kind = 1 ∨ c.kind = 2 := by first | exact .inl (of_decide_eq_true hc2) | exact .inr (of_decide_eq_true hc2)
    have hr : usedR c = {zeroC c.kind with tx := c.tx} := by unfold usedR; rw [if_pos hk]
    refine region_seq hS (by kernel_rfl)
      (cF rfl (o_fieldAddr (off := 1) 101 .is (by kernel_rfl) (by rfl)) r1 r1
      (cF rfl (o_load (ag := true) (sz := 3) 101 .adr (by kernel_rfl) (by kernel_rfl) (by kernel_rfl) (by rfl)) r1 r1
      (cF rfl (o_fieldAddr (off := 1) 103 .is (by kernel_rfl) (by rfl)) r1 r1
      (cF rfl (o_storeA (sz := 3) 103 .adr .t (by kernel_rfl) (by kernel_rfl) (by kernel_rfl)) r2 r1
      Chain.nil))))
      (by kernel_rfl) (by rw [hB]; kernel_rfl) ?_
    clear hS; intro a w F hS
    obtain ⟨F, hS⟩ := hS.norm [(2, _), (3, _)] [(0, _), (101, _), (102, _), (103, _)] r2 r4
    try dsimp only [List.map, stCells, List.length_cons, List.length_nil, Nat.reduceAdd, List.drop_succ_cons, List.drop_zero, List.drop_nil, List.take_succ_cons, List.take_zero, List.take_nil, List.cons_append, List.nil_append, zCF, ldSF, rCmd] at hS
    refine block_n ?_
    refine then_n ?_
    refine wp_seq ?_
    refine region_seq hS (by kernel_rfl)
      (cF rfl (o_load (ag := true) (sz := 10) 103 .is (by kernel_rfl) (by kernel_rfl) (by kernel_rfl) (by rfl)) r1 r1
      (cF rfl (o_storeA (sz := 10) 102 .is .t (by kernel_rfl) (by kernel_rfl) (by kernel_rfl)) r2 r1
      Chain.nil))
      (by kernel_rfl) (by rw [hB]; kernel_rfl) ?_
    clear hS; intro a w F hS
    obtain ⟨F, hS⟩ := hS.norm [(2, _)] [(0, _), (101, _), (102, _), (103, _)] r1 r4
    try dsimp only [List.map, stCells, List.length_cons, List.length_nil, Nat.reduceAdd, List.drop_succ_cons, List.drop_zero, List.drop_nil, List.take_succ_cons, List.take_zero, List.take_nil, List.cons_append, List.nil_append, zCF, ldSF, rCmd] at hS
    refine then_n ?_
    refine wp_ret ?_
    refine ret_P hfr hS rfl (.cell (n := 102) (ag := true) (sz := 10) rfl .is rfl (by kernel_rfl) (by kernel_rfl) (by kernel_rfl) .nil) (.one (.aggLe rfl (by rw [hr]; exact (by refine ⟨?_, ?_, ?_, ?_, ?_, ?_, ?_, ?_, ?_, ?_, trivial⟩ <;> first | exact PVLe.refl | exact PVLe.nilSl))))
   ·skip
    have hn := of_decide_eq_false hc2
    refine wp_seq ?_
    refine wp_seq ?_
    refine region_seq hS (by kernel_rfl)
      (cF rfl (o_eql .t (.ci (by kernel_rfl))) r1 trivial
      (cF rfl (o_assign .t (by rfl)) r1 trivial
      Chain.nil))
      (by kernel_rfl) (by rw [hB]; kernel_rfl) ?_
    clear hS; intro a w F hS
    obtain ⟨F, hS⟩ := hS.norm [(1, _), (2, _), (3, _), (8, _), (15, _)] [(0, _), (101, _), (102, _), (103, _)] r5 r4
    try dsimp only [rCmd] at hS
    refine then_n ?_
    refine cond_b hS rfl (fun hc3 => ?_) (fun hc3 => ?_)
    ·skip
     have hk : c.kind = 3 ∨ c.kind = 10 := by first | exact .inl (of_decide_eq_true hc3) | exact .inr (of_decide_eq_true hc3)
     have hr : usedR c = {zeroC c.kind with id := c.id} := by unfold usedR; rw [if_neg (by omega), if_pos hk]
     refine wp_skip ?_
     refine then_n ?_
     refine cond_b hS rfl (fun hc4 => ?_) (fun hc4 => ?_)
     ·skip
      have hk : c.kind = 3 ∨ c.kind = 10 := by first | exact .inl (of_decide_eq_true hc4) | exact .inr (of_decide_eq_true hc4)
      have hr : usedR c = {zeroC c.kind with id := c.id} := by unfold usedR; rw [if_neg (by omega), if_pos hk]
      refine region_seq hS (by kernel_rfl)
        (cF rfl (o_fieldAddr (off := 7) 101 .is (by kernel_rfl) (by rfl)) r1 r1
        (cF rfl (o_load (ag := false) (sz := 1) 101 .adr (by kernel_rfl) (by kernel_rfl) (by kernel_rfl) (by rfl)) r1 r1
        (cF rfl (o_fieldAddr (off := 7) 103 .is (by kernel_rfl) (by rfl)) r1 r1
        (cF rfl (o_store1 103 .adr .t one_int (by kernel_rfl) (by kernel_rfl)) r2 r1
        Chain.nil))))
        (by kernel_rfl) (by rw [hB]; kernel_rfl) ?_
      clear hS; intro a w F hS
      obtain ⟨F, hS⟩ := hS.norm [(2, _), (3, _)] [(0, _), (101, _), (102, _), (103, _)] r2 r4
      try dsimp only [List.map, stCells, List.length_cons, List.length_nil, Nat.reduceAdd, List.drop_succ_cons, List.drop_zero, List.drop_nil, List.take_succ_cons, List.take_zero, List.take_nil, List.cons_append, List.nil_append, zCF, ldSF, rCmd] at hS
      refine block_n ?_
      refine then_n ?_
      refine wp_seq ?_
      refine region_seq hS (by kernel_rfl)
        (cF rfl (o_load (ag := true) (sz := 10) 103 .is (by kernel_rfl) (by kernel_rfl) (by kernel_rfl) (by rfl)) r1 r1
        (cF rfl (o_storeA (sz := 10) 102 .is .t (by kernel_rfl) (by kernel_rfl) (by kernel_rfl)) r2 r1
        Chain.nil))
        (by kernel_rfl) (by rw [hB]; kernel_rfl) ?_
      clear hS; intro a w F hS
      obtain ⟨F, hS⟩ := hS.norm [(2, _)] [(0, _), (101, _), (102, _), (103, _)] r1 r4
      try dsimp only [List.map, stCells, List.length_cons, List.length_nil, Nat.reduceAdd, List.drop_succ_cons, List.drop_zero, List.drop_nil, List.take_succ_cons, List.take_zero, List.take_nil, List.cons_append, List.nil_append, zCF, ldSF, rCmd] at hS
      refine then_n ?_
      refine wp_ret ?_
      refine ret_P hfr hS rfl (.cell (n := 102) (ag := true) (sz := 10) rfl .is rfl (by kernel_rfl) (by kernel_rfl) (by kernel_rfl) .nil) (.one (.aggLe rfl (by rw [hr]; exact (by refine ⟨?_, ?_, ?_, ?_, ?_, ?_, ?_, ?_, ?_, ?_, trivial⟩ <;> first | exact PVLe.refl | exact PVLe.nilSl))))
     ·exact Bool.noConfusion (hc3.symm.trans hc4)
    ·skip
     have hn := of_decide_eq_false hc3
     refine region_seq hS (by kernel_rfl)
       (cF rfl (o_eql .t (.ci (by kernel_rfl))) r1 trivial
       (cF rfl (o_assign .t (by rfl)) r1 trivial
       Chain.nil))
       (by kernel_rfl) (by rw [hB]; kernel_rfl) ?_
     clear hS; intro a w F hS
     obtain ⟨F, hS⟩ := hS.norm [(1, _), (2, _), (3, _), (8, _), (15, _)] [(0, _), (101, _), (102, _), (103, _)] r5 r4
     try dsimp only [rCmd] at hS
     refine then_n ?_
     refine cond_b hS rfl (fun hc5 => ?_) (fun hc5 => ?_)
     ·skip
      have hk : c.kind = 3 ∨ c.kind = 10 := by first | exact .inl (of_decide_eq_true hc5) | exact .inr (of_decide_eq_true hc5)
      have hr : usedR c = {zeroC c.kind with id := c.id} := by unfold usedR; rw [if_neg (by omega), if_pos hk]
      refine region_seq hS (by kernel_rfl)
        (cF rfl (o_fieldAddr (off := 7) 101 .is (by kernel_rfl) (by rfl)) r1 r1
        (cF rfl (o_load (ag := false) (sz := 1) 101 .adr (by kernel_rfl) (by kernel_rfl) (by kernel_rfl) (by rfl)) r1 r1
        (cF rfl (o_fieldAddr (off := 7) 103 .is (by kernel_rfl) (by rfl)) r1 r1
        (cF rfl (o_store1 103 .adr .t one_int (by kernel_rfl) (by kernel_rfl)) r2 r1
        Chain.nil))))
        (by kernel_rfl) (by rw [hB]; kernel_rfl) ?_
      clear hS; intro a w F hS
      obtain ⟨F, hS⟩ := hS.norm [(2, _), (3, _)] [(0, _), (101, _), (102, _), (103, _)] r2 r4
      try dsimp only [List.map, stCells, List.length_cons, List.length_nil, Nat.reduceAdd, List.drop_succ_cons, List.drop_zero, List.drop_nil, List.take_succ_cons, List.take_zero, List.take_nil, List.cons_append, List.nil_append, zCF, ldSF, rCmd] at hS
      refine block_n ?_
      refine then_n ?_
      refine wp_seq ?_
      refine region_seq hS (by kernel_rfl)
        (cF rfl (o_load (ag := true) (sz := 10) 103 .is (by kernel_rfl) (by kernel_rfl) (by kernel_rfl) (by rfl)) r1 r1
        (cF rfl (o_storeA (sz := 10) 102 .is .t (by kernel_rfl) (by kernel_rfl) (by kernel_rfl)) r2 r1
        Chain.nil))
        (by kernel_rfl) (by rw [hB]; kernel_rfl) ?_
      clear hS; intro a w F hS
      obtain ⟨F, hS⟩ := hS.norm [(2, _)] [(0, _), (101, _), (102, _), (103, _)] r1 r4
      try dsimp only [List.map, stCells, List.length_cons, List.length_nil, Nat.reduceAdd, List.drop_succ_cons, List.drop_zero, List.drop_nil, List.take_succ_cons, List.take_zero, List.take_nil, List.cons_append, List.nil_append, zCF, ldSF, rCmd] at hS
      refine then_n ?_
      refine wp_ret ?_
      refine ret_P hfr hS rfl (.cell (n := 102) (ag := true) (sz := 10) rfl .is rfl (by kernel_rfl) (by kernel_rfl) (by kernel_rfl) .nil) (.one (.aggLe rfl (by rw [hr]; exact (by refine ⟨?_, ?_, ?_, ?_, ?_, ?_, ?_, ?_, ?_, ?_, trivial⟩ <;> first | exact PVLe.refl | exact PVLe.nilSl))))
     ·skip
      have hn := of_decide_eq_false hc5
      refine wp_seq ?_
      refine region_seq hS (by kernel_rfl)
        (cF rfl (o_eql .t (.ci (by kernel_rfl))) r1 trivial
        (cF rfl (o_assign .t (by rfl)) r1 trivial
        Chain.nil))
        (by kernel_rfl) (by rw [hB]; kernel_rfl) ?_
      clear hS; intro a w F hS
      obtain ⟨F, hS⟩ := hS.norm [(1, _), (2, _), (3, _), (8, _), (21, _)] [(0, _), (101, _), (102, _), (103, _)] r5 r4
      try dsimp only [rCmd] at hS
      refine then_n ?_
      refine cond_b hS rfl (fun hc6 => ?_) (fun hc6 => ?_)
      ·skip
       have hk := of_decide_eq_true hc6
       have hr : usedR c = {zeroC c.kind with order := c.order} := by unfold usedR; rw [if_neg (by omega), if_neg (by omega), if_pos hk]
       refine region_seq hS (by kernel_rfl)
         (cF rfl (o_fieldAddr (off := 4) 101 .is (by kernel_rfl) (by rfl)) r1 r1
         (cF rfl (o_load (ag := true) (sz := 2) 101 .adr (by kernel_rfl) (by kernel_rfl) (by kernel_rfl) (by rfl)) r1 r1
         (cF rfl (o_fieldAddr (off := 4) 103 .is (by kernel_rfl) (by rfl)) r1 r1
         (cF rfl (o_storeA (sz := 2) 103 .adr .t (by kernel_rfl) (by kernel_rfl) (by kernel_rfl)) r2 r1
         Chain.nil))))
         (by kernel_rfl) (by rw [hB]; kernel_rfl) ?_
       clear hS; intro a w F hS
       obtain ⟨F, hS⟩ := hS.norm [(2, _), (3, _)] [(0, _), (101, _), (102, _), (103, _)] r2 r4
       try dsimp only [List.map, stCells, List.length_cons, List.length_nil, Nat.reduceAdd, List.drop_succ_cons, List.drop_zero, List.drop_nil, List.take_succ_cons, List.take_zero, List.take_nil, List.cons_append, List.nil_append, zCF, ldSF, rCmd] at hS
       refine block_n ?_
       refine then_n ?_
       refine wp_seq ?_
       refine region_seq hS (by kernel_rfl)
         (cF rfl (o_load (ag := true) (sz := 10) 103 .is (by kernel_rfl) (by kernel_rfl) (by kernel_rfl) (by rfl)) r1 r1
         (cF rfl (o_storeA (sz := 10) 102 .is .t (by kernel_rfl) (by kernel_rfl) (by kernel_rfl)) r2 r1
         Chain.nil))
         (by kernel_rfl) (by rw [hB]; kernel_rfl) ?_
       clear hS; intro a w F hS
       obtain ⟨F, hS⟩ := hS.norm [(2, _)] [(0, _), (101, _), (102, _), (103, _)] r1 r4
       try dsimp only [List.map, stCells, List.length_cons, List.length_nil, Nat.reduceAdd, List.drop_succ_cons, List.drop_zero, List.drop_nil, List.take_succ_cons, List.take_zero, List.take_nil, List.cons_append, List.nil_append, zCF, ldSF, rCmd] at hS
       refine then_n ?_
       refine wp_ret ?_
       refine ret_P hfr hS rfl (.cell (n := 102) (ag := true) (sz := 10) rfl .is rfl (by kernel_rfl) (by kernel_rfl) (by kernel_rfl) .nil) (.one (.aggLe rfl (by rw [hr]; exact (by refine ⟨?_, ?_, ?_, ?_, ?_, ?_, ?_, ?_, ?_, ?_, trivial⟩ <;> first | exact PVLe.refl | exact PVLe.nilSl))))
      ·skip
       have hn := of_decide_eq_false hc6
       refine wp_seq ?_
       refine region_seq hS (by kernel_rfl)
         (cF rfl (o_eql .t (.ci (by kernel_rfl))) r1 trivial
         (cF rfl (o_assign .t (by rfl)) r1 trivial
         Chain.nil))
         (by kernel_rfl) (by rw [hB]; kernel_rfl) ?_
       clear hS; intro a w F hS
       obtain ⟨F, hS⟩ := hS.norm [(1, _), (2, _), (3, _), (8, _), (26, _)] [(0, _), (101, _), (102, _), (103, _)] r5 r4
       try dsimp only [rCmd] at hS
       refine then_n ?_
       refine cond_b hS rfl (fun hc7 => ?_) (fun hc7 => ?_)
       ·skip
        have hk := of_decide_eq_true hc7
        have hr : usedR c = {zeroC c.kind with key := c.key, id := c.id, place := c.place} := by unfold usedR; rw [if_neg (by omega), if_neg (by omega), if_neg (by omega), if_pos hk]
        refine wp_seq ?_
        refine region_seq hS (by kernel_rfl)
          (cF rfl (o_fieldAddr (off := 6) 101 .is (by kernel_rfl) (by rfl)) r1 r1
          (cF rfl (o_load (ag := false) (sz := 1) 101 .adr (by kernel_rfl) (by kernel_rfl) (by kernel_rfl) (by rfl)) r1 r1
          (cF rfl (o_fieldAddr (off := 6) 103 .is (by kernel_rfl) (by rfl)) r1 r1
          (cF rfl (o_store1 103 .adr .t one_int (by kernel_rfl) (by kernel_rfl)) r2 r1
          Chain.nil))))
          (by kernel_rfl) (by rw [hB]; kernel_rfl) ?_
        clear hS; intro a w F hS
        obtain ⟨F, hS⟩ := hS.norm [(1, _), (2, _), (3, _)] [(0, _), (101, _), (102, _), (103, _)] r3 r4
        try dsimp only [List.map, stCells, List.length_cons, List.length_nil, Nat.reduceAdd, List.drop_succ_cons, List.drop_zero, List.drop_nil, List.take_succ_cons, List.take_zero, List.take_nil, List.cons_append, List.nil_append, zCF, ldSF, rCmd] at hS
        refine then_n ?_
        refine wp_seq ?_
        refine region_seq hS (by kernel_rfl)
          (cF rfl (o_fieldAddr (off := 7) 101 .is (by kernel_rfl) (by rfl)) r1 r1
          (cF rfl (o_load (ag := false) (sz := 1) 101 .adr (by kernel_rfl) (by kernel_rfl) (by kernel_rfl) (by rfl)) r1 r1
          (cF rfl (o_fieldAddr (off := 7) 103 .is (by kernel_rfl) (by rfl)) r1 r1
          (cF rfl (o_store1 103 .adr .t one_int (by kernel_rfl) (by kernel_rfl)) r2 r1
          Chain.nil))))
          (by kernel_rfl) (by rw [hB]; kernel_rfl) ?_
        clear hS; intro a w F hS
        obtain ⟨F, hS⟩ := hS.norm [(1, _), (2, _), (3, _)] [(0, _), (101, _), (102, _), (103, _)] r3 r4
        try dsimp only [List.map, stCells, List.length_cons, List.length_nil, Nat.reduceAdd, List.drop_succ_cons, List.drop_zero, List.drop_nil, List.take_succ_cons, List.take_zero, List.take_nil, List.cons_append, List.nil_append, zCF, ldSF, rCmd] at hS
        refine then_n ?_
        refine region_seq hS (by kernel_rfl)
          (cF rfl (o_fieldAddr (off := 8) 101 .is (by kernel_rfl) (by rfl)) r1 r1
          (cF rfl (o_load (ag := false) (sz := 1) 101 .adr (by kernel_rfl) (by kernel_rfl) (by kernel_rfl) (by rfl)) r1 r1
          (cF rfl (o_fieldAddr (off := 8) 103 .is (by kernel_rfl) (by rfl)) r1 r1
          (cF rfl (o_store1 103 .adr .t one_int (by kernel_rfl) (by kernel_rfl)) r2 r1
          Chain.nil))))
          (by kernel_rfl) (by rw [hB]; kernel_rfl) ?_
        clear hS; intro a w F hS
        obtain ⟨F, hS⟩ := hS.norm [(2, _), (3, _)] [(0, _), (101, _), (102, _), (103, _)] r2 r4
        try dsimp only [List.map, stCells, List.length_cons, List.length_nil, Nat.reduceAdd, List.drop_succ_cons, List.drop_zero, List.drop_nil, List.take_succ_cons, List.take_zero, List.take_nil, List.cons_append, List.nil_append, zCF, ldSF, rCmd] at hS
        refine block_n ?_
        refine then_n ?_
        refine wp_seq ?_
        refine region_seq hS (by kernel_rfl)
          (cF rfl (o_load (ag := true) (sz := 10) 103 .is (by kernel_rfl) (by kernel_rfl) (by kernel_rfl) (by rfl)) r1 r1
          (cF rfl (o_storeA (sz := 10) 102 .is .t (by kernel_rfl) (by kernel_rfl) (by kernel_rfl)) r2 r1
          Chain.nil))
          (by kernel_rfl) (by rw [hB]; kernel_rfl) ?_
        clear hS; intro a w F hS
        obtain ⟨F, hS⟩ := hS.norm [(2, _)] [(0, _), (101, _), (102, _), (103, _)] r1 r4
        try dsimp only [List.map, stCells, List.length_cons, List.length_nil, Nat.reduceAdd, List.drop_succ_cons, List.drop_zero, List.drop_nil, List.take_succ_cons, List.take_zero, List.take_nil, List.cons_append, List.nil_append, zCF, ldSF, rCmd] at hS
        refine then_n ?_
        refine wp_ret ?_
        refine ret_P hfr hS rfl (.cell (n := 102) (ag := true) (sz := 10) rfl .is rfl (by kernel_rfl) (by kernel_rfl) (by kernel_rfl) .nil) (.one (.aggLe rfl (by rw [hr]; exact (by refine ⟨?_, ?_, ?_, ?_, ?_, ?_, ?_, ?_, ?_, ?_, trivial⟩ <;> first | exact PVLe.refl | exact PVLe.nilSl))))
       ·skip
        have hn := of_decide_eq_false hc7
        refine wp_seq ?_
        refine region_seq hS (by kernel_rfl)
          (cF rfl (o_eql .t (.ci (by kernel_rfl))) r1 trivial
          (cF rfl (o_assign .t (by rfl)) r1 trivial
          Chain.nil))
          (by kernel_rfl) (by rw [hB]; kernel_rfl) ?_
        clear hS; intro a w F hS
        obtain ⟨F, hS⟩ := hS.norm [(1, _), (2, _), (3, _), (37, _)] [(0, _), (101, _), (102, _), (103, _)] r4 r4
        try dsimp only [rCmd] at hS
        refine then_n ?_
        refine cond_b hS rfl (fun hc8 => ?_) (fun hc8 => ?_)
        ·skip
         have hk := of_decide_eq_true hc8
         have hr : usedR c = {zeroC c.kind with phen := c.phen} := by unfold usedR; rw [if_neg (by omega), if_neg (by omega), if_neg (by omega), if_neg (by omega), if_pos hk]
         refine region_seq hS (by kernel_rfl)
           (cF rfl (o_fieldAddr (off := 9) 101 .is (by kernel_rfl) (by rfl)) r1 r1
           (cF rfl (o_load (ag := false) (sz := 1) 101 .adr (by kernel_rfl) (by kernel_rfl) (by kernel_rfl) (by rfl)) r1 r1
           (cF rfl (o_fieldAddr (off := 9) 103 .is (by kernel_rfl) (by rfl)) r1 r1
           (cF rfl (o_store1 103 .adr .t one_int (by kernel_rfl) (by kernel_rfl)) r2 r1
           Chain.nil))))
           (by kernel_rfl) (by rw [hB]; kernel_rfl) ?_
         clear hS; intro a w F hS
         obtain ⟨F, hS⟩ := hS.norm [(2, _), (3, _)] [(0, _), (101, _), (102, _), (103, _)] r2 r4
         try dsimp only [List.map, stCells, List.length_cons, List.length_nil, Nat.reduceAdd, List.drop_succ_cons, List.drop_zero, List.drop_nil, List.take_succ_cons, List.take_zero, List.take_nil, List.cons_append, List.nil_append, zCF, ldSF, rCmd] at hS
         refine block_n ?_
         refine then_n ?_
         refine wp_seq ?_
         refine region_seq hS (by kernel_rfl)
           (cF rfl (o_load (ag := true) (sz := 10) 103 .is (by kernel_rfl) (by kernel_rfl) (by kernel_rfl) (by rfl)) r1 r1
           (cF rfl (o_storeA (sz := 10) 102 .is .t (by kernel_rfl) (by kernel_rfl) (by kernel_rfl)) r2 r1
           Chain.nil))
           (by kernel_rfl) (by rw [hB]; kernel_rfl) ?_
         clear hS; intro a w F hS
         obtain ⟨F, hS⟩ := hS.norm [(2, _)] [(0, _), (101, _), (102, _), (103, _)] r1 r4
         try dsimp only [List.map, stCells, List.length_cons, List.length_nil, Nat.reduceAdd, List.drop_succ_cons, List.drop_zero, List.drop_nil, List.take_succ_cons, List.take_zero, List.take_nil, List.cons_append, List.nil_append, zCF, ldSF, rCmd] at hS
         refine then_n ?_
         refine wp_ret ?_
         refine ret_P hfr hS rfl (.cell (n := 102) (ag := true) (sz := 10) rfl .is rfl (by kernel_rfl) (by kernel_rfl) (by kernel_rfl) .nil) (.one (.aggLe rfl (by rw [hr]; exact (by refine ⟨?_, ?_, ?_, ?_, ?_, ?_, ?_, ?_, ?_, ?_, trivial⟩ <;> first | exact PVLe.refl | exact PVLe.nilSl))))
        ·skip
         have hn := of_decide_eq_false hc8
         have hr : usedR c = zeroC c.kind := by unfold usedR; rw [if_neg (by omega), if_neg (by omega), if_neg (by omega), if_neg (by omega), if_neg (by omega)]
         refine wp_skip ?_
         refine block_n ?_
         refine then_n ?_
         refine wp_seq ?_
         refine region_seq hS (by kernel_rfl)
           (cF rfl (o_load (ag := true) (sz := 10) 103 .is (by kernel_rfl) (by kernel_rfl) (by kernel_rfl) (by rfl)) r1 r1
           (cF rfl (o_storeA (sz := 10) 102 .is .t (by kernel_rfl) (by kernel_rfl) (by kernel_rfl)) r2 r1
           Chain.nil))
           (by kernel_rfl) (by rw [hB]; kernel_rfl) ?_
         clear hS; intro a w F hS
         obtain ⟨F, hS⟩ := hS.norm [(2, _)] [(0, _), (101, _), (102, _), (103, _)] r1 r4
         try dsimp only [List.map, stCells, List.length_cons, List.length_nil, Nat.reduceAdd, List.drop_succ_cons, List.drop_zero, List.drop_nil, List.take_succ_cons, List.take_zero, List.take_nil, List.cons_append, List.nil_append, zCF, ldSF, rCmd] at hS
         refine then_n ?_
         refine wp_ret ?_
         refine ret_P hfr hS rfl (.cell (n := 102) (ag := true) (sz := 10) rfl .is rfl (by kernel_rfl) (by kernel_rfl) (by kernel_rfl) .nil) (.one (.aggLe rfl (by rw [hr]; exact (by refine ⟨?_, ?_, ?_, ?_, ?_, ?_, ?_, ?_, ?_, ?_, trivial⟩ <;> first | exact PVLe.refl | exact PVLe.nilSl))))

end Go.Proofs.YtjdcnjemhjldoaaGreatDoor
