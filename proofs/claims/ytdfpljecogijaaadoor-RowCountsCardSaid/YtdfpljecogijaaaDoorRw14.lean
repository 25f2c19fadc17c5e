/- RowCounts, RowBack. No condition beyond those that each theorem says. -/
import Derived.Test.YtdfpljecogijaaaDoorRw13
namespace Go.Proofs.YtdfpljecogijaaaDoor
open Go Go.Gm
set_option linter.unusedVariables false
set_option linter.unusedSimpArgs false
set_option maxHeartbeats 4000000
set_option maxRecDepth 8000


theorem counts_c (n : Int) (l k : List Int) : FnPg Tryd.prog tabP tabV 7 [.int .i64 n, .sl rInt l, .sl rInt k] (.bool true) := by
  refine FnPg.mk Tryd.func7 rfl Tryd.ntmps7 rfl ?_
  intro B a w F hB hfr hS
  refine wp_seq ?_
  refine region_seq hS (by kernel_rfl)
    (cF rfl (o_assign .cb (by rfl)) trivial trivial
    Chain.nil)
    (by kernel_rfl) (by rw [hB]; kernel_rfl) ?_
  clear hS; intro a w F hS
  obtain ⟨F, hS⟩ := hS.norm [(0, _), (1, _), (2, _), (6, _)] [(0, _), (9, _)] r4 r2
  refine then_n ?_
  refine wp_seq ?_
  refine wp_seq ?_
  refine region_seq hS (by kernel_rfl)
    (cF rfl (o_callPg 9 (lives_c) Tryd.func25 rfl (by kernel_rfl) Args.nil) trivial r1
    (cF rfl (o_not .t) r1 trivial
    Chain.nil))
    (by kernel_rfl) (by rw [hB]; kernel_rfl) ?_
  clear hS; intro a w F hS
  obtain ⟨F, hS⟩ := hS.norm [(0, _), (1, _), (2, _), (6, _), (13, _)] [(0, _), (9, _)] r5 r2
  refine then_n ?_
  refine cond_b hS rfl (fun hc0 => ?_) (fun hc0 => ?_)
  ·skip
   simp at hc0
  ·skip
   refine wp_skip ?_
   refine then_n ?_
   refine wp_seq ?_
   refine wp_seq ?_
   refine region_seq hS (by kernel_rfl)
     (cF rfl (o_move .t (by rfl)) r1 trivial
     (cF rfl (o_len_sl Tryd.underlying22 .t) r1 trivial
     (cF rfl (o_gtr .t (.ci (by kernel_rfl))) r1 trivial
     (cF rfl (o_move .t (by rfl)) r1 trivial
     (Chain.cons (Cert.cond rfl rfl (fun h => o_move .t (by rfl))) r2 trivial
     (Chain.cons (Cert.cond rfl rfl (fun h => o_len_sl Tryd.underlying22 (.w h))) r2 trivial
     (Chain.cons (Cert.cond rfl rfl (fun h => o_gtr (.w h) (.ci (by kernel_rfl)))) r2 trivial
     (cF rfl (o_or2 .t .t) r2 trivial
     Chain.nil))))))))
     (by kernel_rfl) (by rw [hB]; kernel_rfl) ?_
   clear hS; intro a w F hS
   obtain ⟨F, hS⟩ := hS.norm [(0, _), (1, _), (2, _), (6, _), (21, _)] [(0, _), (9, _)] r5 r2
   refine then_n ?_
   refine cond_b hS rfl (fun hc1 => ?_) (fun hc1 => ?_)
   ·skip
    refine wp_seq ?_
    refine region_seq hS (by kernel_rfl)
      (cF rfl (o_assign .cb (by rfl)) trivial trivial
      Chain.nil)
      (by kernel_rfl) (by rw [hB]; kernel_rfl) ?_
    clear hS; intro a w F hS
    obtain ⟨F, hS⟩ := hS.norm [(0, _), (1, _), (2, _), (6, _)] [(0, _), (9, _)] r4 r2
    refine then_n ?_
    refine wp_ret ?_
    refine then_r ?_
    refine ret_P hfr hS rfl (.tmp rfl .nil) (.one (.bool (by first | rfl | exact hg)))
   ·skip
    have hlb : l.length ≤ 200 ∧ k.length ≤ 200 := by simp at hc1; omega
    refine wp_skip ?_
    refine then_n ?_
    refine wp_seq ?_
    replace hS := hS.dupG 9 61 rfl rfl
    replace hS := hS.dupG 9 62 rfl rfl
    refine region_seq hS (by kernel_rfl)
      (cF rfl (o_move .t (by rfl)) r1 trivial
      (cF rfl (o_move .t (by rfl)) r1 trivial
      (cF rfl (o_callNg 61 (ofS_c n l (by omega)) Tryd.func26 rfl (by kernel_rfl) (Args.two .t .t) PV.ptr_one) r2 r1
      (cF rfl (o_move .t (by rfl)) r1 trivial
      (cF rfl (o_move .t (by rfl)) r1 trivial
      (cF rfl (o_callNg 62 (ofS_c n k (by omega)) Tryd.func26 rfl (by kernel_rfl) (Args.two .t .t) PV.ptr_one) r2 r1
      (cF rfl (o_assign .t (by rfl)) r1 trivial
      (cF rfl (o_assign .t (by rfl)) r1 trivial
      Chain.nil))))))))
      (by kernel_rfl) (by rw [hB]; kernel_rfl) ?_
    clear hS; intro a w F hS
    replace hS := hS.sub
    obtain ⟨F, hS⟩ := hS.norm [(6, _), (7, _), (8, _)] [(0, _), (9, _), (61, _), (62, _)] r3 r4
    try dsimp only [RS.sub, SF.sub, CF.sub, csub, Anc.sub, List.map] at hS
    generalize Act.tau a 24 = v24 at hS
    generalize Act.tau a 27 = v27 at hS
    obtain ⟨_, _, _, ho⟩ := hS.obGet 61 rfl
    obtain ⟨b1, rfl⟩ := setH_ptr ho
    clear ho
    replace hS := hS.turn 61 rfl (r' := RS.hp (setH (.pointer (some ⟨b1, 0, none⟩)) (rowN n) (ofL n l))) (fun _ _ _ _ h => h)
    obtain ⟨F, hS⟩ := hS.norm [(6, _), (7, _), (8, _)] [(0, _), (9, _), (61, _), (62, _)] r3 r4
    obtain ⟨_, _, _, ho⟩ := hS.obGet 62 rfl
    obtain ⟨b2, rfl⟩ := setH_ptr ho
    clear ho
    replace hS := hS.turn 62 rfl (r' := RS.hp (setH (.pointer (some ⟨b2, 0, none⟩)) (rowN n) (ofL n k))) (fun _ _ _ _ h => h)
    obtain ⟨F, hS⟩ := hS.norm [(6, _), (7, _), (8, _)] [(0, _), (9, _), (61, _), (62, _)] r3 r4
    refine then_n ?_
    refine wp_seq ?_
    refine wp_seq ?_
    refine region_seq hS (by kernel_rfl)
      (cF rfl (o_move .t (by rfl)) r1 trivial
      (cF rfl (o_nil_eql _ Tryd.underlying46 rfl .t) r1 trivial
      (cF rfl (o_move .t (by rfl)) r1 trivial
      (Chain.cons (Cert.cond rfl rfl (fun h => o_move .t (by rfl))) r2 trivial
      (Chain.cons (Cert.cond rfl rfl (fun h => o_nil_eql _ Tryd.underlying46 rfl (.w h))) r2 trivial
      (cF rfl (o_or2 .t .t) r2 trivial
      (cF rfl (o_move .t (by rfl)) r1 trivial
      (Chain.cons (Cert.cond rfl rfl (fun h => o_move .t (by rfl))) r2 trivial
      (Chain.cons (Cert.condR rfl rfl (by rfl) (fun h => o_callG1 61 (copy_g (.pointer (some ⟨b1, 0, none⟩)) (rowN n) (ofL n l)) Tryd.func38 rfl (by kernel_rfl) (Args.one (.w h)))) r2 r1
      (Chain.cons (Cert.cond rfl rfl (fun h => o_nn_eql Tryd.underlying46 (fun _ _ _ h => setR_ptr h) (.w h))) r2 trivial
      (cF rfl (o_or2 .t .t) r2 trivial
      Chain.nil)))))))))))
      (by kernel_rfl) (by rw [hB]; kernel_rfl) ?_
    clear hS; intro a w F hS
    obtain ⟨F, hS⟩ := hS.norm [(6, _), (7, _), (8, _), (38, _)] [(0, _), (9, _), (61, _), (62, _)] r4 r4
    refine then_n ?_
    refine cond_b hS rfl (fun hc2 => ?_) (fun hc2 => ?_)
    ·skip
     simp at hc2
    ·skip
     refine wp_skip ?_
     refine then_n ?_
     refine wp_seq ?_
     replace hS := hS.fresh 63 rfl
     replace hS := hS.fresh 64 rfl
     replace hS := hS.fresh 65 rfl
     refine region_seq hS (by kernel_rfl)
       (cF rfl (o_move .t (by rfl)) r1 trivial
       (cF rfl (o_callG2N 61 63 (copy_n (.pointer (some ⟨b1, 0, none⟩)) (rowN n) (ofL n l)) Tryd.func38 rfl (by kernel_rfl) rfl (Args.one .t) PV.ptr_one) r1 r2
       (cF rfl (o_move .t (by rfl)) r1 trivial
       (cF rfl (o_callG2N 61 64 (copy_n (.pointer (some ⟨b1, 0, none⟩)) (rowN n) (ofL n l)) Tryd.func38 rfl (by kernel_rfl) rfl (Args.one .t) PV.ptr_one) r1 r2
       (cF rfl (o_move .t (by rfl)) r1 trivial
       (cF rfl (o_callG2N 61 65 (copy_n (.pointer (some ⟨b1, 0, none⟩)) (rowN n) (ofL n l)) Tryd.func38 rfl (by kernel_rfl) rfl (Args.one .t) PV.ptr_one) r1 r2
       (cF rfl (o_assign .t (by rfl)) r1 trivial
       (cF rfl (o_assign .t (by rfl)) r1 trivial
       (cF rfl (o_assign .t (by rfl)) r1 trivial
       Chain.nil)))))))))
       (by kernel_rfl) (by rw [hB]; kernel_rfl) ?_
     clear hS; intro a w F hS
     replace hS := hS.sub
     obtain ⟨F, hS⟩ := hS.norm [(6, _), (7, _), (8, _), (9, _), (10, _), (11, _)] [(0, _), (9, _), (61, _), (62, _), (63, _), (64, _), (65, _)] r6 r7
     try dsimp only [RS.sub, SF.sub, CF.sub, csub, Anc.sub, List.map] at hS
     generalize Act.tau a 40 = v40 at hS
     generalize Act.tau a 42 = v42 at hS
     generalize Act.tau a 44 = v44 at hS
     obtain ⟨_, _, _, ho⟩ := hS.obGet 63 rfl
     obtain ⟨b3, rfl⟩ := setH_ptr ho
     clear ho
     replace hS := hS.turn 63 rfl (r' := RS.hp (setH (.pointer (some ⟨b3, 0, none⟩)) (rowN n) (ofL n l))) (fun _ _ _ _ h => h)
     obtain ⟨F, hS⟩ := hS.norm [(6, _), (7, _), (8, _), (9, _), (10, _), (11, _)] [(0, _), (9, _), (61, _), (62, _), (63, _), (64, _), (65, _)] r6 r7
     obtain ⟨_, _, _, ho⟩ := hS.obGet 64 rfl
     obtain ⟨b4, rfl⟩ := setH_ptr ho
     clear ho
     replace hS := hS.turn 64 rfl (r' := RS.hp (setH (.pointer (some ⟨b4, 0, none⟩)) (rowN n) (ofL n l))) (fun _ _ _ _ h => h)
     obtain ⟨F, hS⟩ := hS.norm [(6, _), (7, _), (8, _), (9, _), (10, _), (11, _)] [(0, _), (9, _), (61, _), (62, _), (63, _), (64, _), (65, _)] r6 r7
     obtain ⟨_, _, _, ho⟩ := hS.obGet 65 rfl
     obtain ⟨b5, rfl⟩ := setH_ptr ho
     clear ho
     replace hS := hS.turn 65 rfl (r' := RS.hp (setH (.pointer (some ⟨b5, 0, none⟩)) (rowN n) (ofL n l))) (fun _ _ _ _ h => h)
     obtain ⟨F, hS⟩ := hS.norm [(6, _), (7, _), (8, _), (9, _), (10, _), (11, _)] [(0, _), (9, _), (61, _), (62, _), (63, _), (64, _), (65, _)] r6 r7
     refine then_n ?_
     refine wp_seq ?_
     refine region_seq hS (by kernel_rfl)
       (cF rfl (o_move .t (by rfl)) r1 trivial
       (cF rfl (o_move .t (by rfl)) r1 trivial
       (cF rfl (OpC.lend 62 [46] setH_lend (o_callG1 63 (or_c b3 (rowN n) (ofL n l) (rowN n) (ofL n k)) Tryd.func39 rfl (by kernel_rfl) (Args.two .t .t)) ⟨trivial, rfl, trivial⟩ (.pv (fun _ _ _ _ h => h)) ⟨(fun _ _ _ _ _ _ _ _ h e k => setH_free h e k), trivial⟩ (by rfl)) r2 r2
       Chain.nil)))
       (by kernel_rfl) (by rw [hB]; kernel_rfl) ?_
     clear hS; intro a w F hS
     obtain ⟨F, hS⟩ := hS.norm [(6, _), (7, _), (8, _), (9, _), (10, _), (11, _)] [(0, _), (9, _), (61, _), (62, _), (63, _), (64, _), (65, _)] r6 r7
     refine then_n ?_
     refine wp_seq ?_
     refine region_seq hS (by kernel_rfl)
       (cF rfl (o_move .t (by rfl)) r1 trivial
       (cF rfl (o_move .t (by rfl)) r1 trivial
       (cF rfl (OpC.lend 62 [49] setH_lend (o_callG1 64 (and_c b4 (rowN n) (ofL n l) (rowN n) (ofL n k)) Tryd.func40 rfl (by kernel_rfl) (Args.two .t .t)) ⟨trivial, rfl, trivial⟩ (.pv (fun _ _ _ _ h => h)) ⟨(fun _ _ _ _ _ _ _ _ h e k => setH_free h e k), trivial⟩ (by rfl)) r2 r2
       Chain.nil)))
       (by kernel_rfl) (by rw [hB]; kernel_rfl) ?_
     clear hS; intro a w F hS
     obtain ⟨F, hS⟩ := hS.norm [(6, _), (7, _), (8, _), (9, _), (10, _), (11, _)] [(0, _), (9, _), (61, _), (62, _), (63, _), (64, _), (65, _)] r6 r7
     refine then_n ?_
     refine wp_seq ?_
     refine region_seq hS (by kernel_rfl)
       (cF rfl (o_move .t (by rfl)) r1 trivial
       (cF rfl (o_move .t (by rfl)) r1 trivial
       (cF rfl (OpC.lend 62 [52] setH_lend (o_callG1 65 (minus_c b5 (rowN n) (ofL n l) (rowN n) (ofL n k)) Tryd.func41 rfl (by kernel_rfl) (Args.two .t .t)) ⟨trivial, rfl, trivial⟩ (.pv (fun _ _ _ _ h => h)) ⟨(fun _ _ _ _ _ _ _ _ h e k => setH_free h e k), trivial⟩ (by rfl)) r2 r2
       Chain.nil)))
       (by kernel_rfl) (by rw [hB]; kernel_rfl) ?_
     clear hS; intro a w F hS
     obtain ⟨F, hS⟩ := hS.norm [(6, _), (7, _), (8, _), (9, _), (10, _), (11, _)] [(0, _), (9, _), (61, _), (62, _), (63, _), (64, _), (65, _)] r6 r7
     refine then_n ?_
     refine wp_seq ?_
     refine wp_seq ?_
     refine region_seq hS (by kernel_rfl)
       (cF rfl (o_move .t (by rfl)) r1 trivial
       (cF rfl (OpC.lend 63 [54] setH_lend (o_callP (countS_c (rowN n) (orL (ofL n l) (rowN n) (ofL n k))) Tryd.func31 rfl (by kernel_rfl) (Args.one .t)) ⟨rfl, trivial⟩ (.pv (fun _ _ _ _ h => h)) trivial (by rfl)) r1 r1
       (cF rfl (o_move .t (by rfl)) r1 trivial
       (cF rfl (OpC.lend 64 [56] setH_lend (o_callP (countS_c (rowN n) (andL (ofL n l) (ofL n k))) Tryd.func31 rfl (by kernel_rfl) (Args.one .t)) ⟨rfl, trivial⟩ (.pv (fun _ _ _ _ h => h)) trivial (by rfl)) r1 r1
       (cF rfl (o_add .t .t) r2 trivial
       (cF rfl (o_move .t (by rfl)) r1 trivial
       (cF rfl (OpC.lend 61 [59] setH_lend (o_callP (countS_c (rowN n) (ofL n l)) Tryd.func31 rfl (by kernel_rfl) (Args.one .t)) ⟨rfl, trivial⟩ (.pv (fun _ _ _ _ h => h)) trivial (by rfl)) r1 r1
       (cF rfl (o_move .t (by rfl)) r1 trivial
       (cF rfl (OpC.lend 62 [61] setH_lend (o_callP (countS_c (rowN n) (ofL n k)) Tryd.func31 rfl (by kernel_rfl) (Args.one .t)) ⟨rfl, trivial⟩ (.pv (fun _ _ _ _ h => h)) trivial (by rfl)) r1 r1
       (cF rfl (o_add .t .t) r2 trivial
       (cF rfl (o_neq .t .t) r2 trivial
       (cF rfl (o_move .t (by rfl)) r1 trivial
       (Chain.cons (Cert.cond rfl rfl (fun h => o_move .t (by rfl))) r2 trivial
       (Chain.cons (Cert.cond rfl rfl (fun h => OpC.lend 65 [66] setH_lend (o_callP (countS_c (rowN n) (minusL (ofL n l) (ofL n k))) Tryd.func31 rfl (by kernel_rfl) (Args.one (.w h))) ⟨rfl, trivial⟩ (.pv (fun _ _ _ _ h => h)) trivial (by rfl))) r2 r1
       (Chain.cons (Cert.cond rfl rfl (fun h => o_move .t (by rfl))) r2 trivial
       (Chain.cons (Cert.cond rfl rfl (fun h => OpC.lend 64 [68] setH_lend (o_callP (countS_c (rowN n) (andL (ofL n l) (ofL n k))) Tryd.func31 rfl (by kernel_rfl) (Args.one (.w h))) ⟨rfl, trivial⟩ (.pv (fun _ _ _ _ h => h)) trivial (by rfl))) r2 r1
       (Chain.cons (Cert.cond rfl rfl (fun h => o_add (.w h) (.w h))) r3 trivial
       (Chain.cons (Cert.cond rfl rfl (fun h => o_move .t (by rfl))) r2 trivial
       (Chain.cons (Cert.cond rfl rfl (fun h => OpC.lend 61 [71] setH_lend (o_callP (countS_c (rowN n) (ofL n l)) Tryd.func31 rfl (by kernel_rfl) (Args.one (.w h))) ⟨rfl, trivial⟩ (.pv (fun _ _ _ _ h => h)) trivial (by rfl))) r2 r1
       (Chain.cons (Cert.cond rfl rfl (fun h => o_neq (.w h) (.w h))) r3 trivial
       (cF rfl (o_or2 .t .t) r2 trivial
       Chain.nil)))))))))))))))))))))
       (by kernel_rfl) (by rw [hB]; kernel_rfl) ?_
     clear hS; intro a w F hS
     obtain ⟨F, hS⟩ := hS.norm [(6, _), (7, _), (10, _), (11, _), (74, _)] [(0, _), (9, _), (61, _), (62, _), (63, _), (64, _), (65, _)] r5 r7
     refine then_n ?_
     refine cond_b hS rfl (fun hc3 => ?_) (fun hc3 => ?_)
     ·skip
      have h1 := or_both (ofL_up n l) (ofL_up n k)
      have h2 := less_both (ofL n l) (ofL n k)
      have h3 := (ofL_up n l).len
      have h4 := (ofL_up n k).len
      have h5 := rowN_le n
      rw [wrap_i64 (by omega), wrap_i64 (by omega), wrap_i64 (by omega)] at hc3
      simp at hc3
      omega
     ·skip
      have hg : decide ((rowN n) = (rowN n) ∧ (orL (minusL (ofL n l) (ofL n k)) (rowN n) (andL (ofL n l) (ofL n k))) = (ofL n l)) = true := by rw [decide_eq_true_eq]; exact ⟨rfl, back_whole (ofL_up n l) _⟩
      refine wp_skip ?_
      refine then_n ?_
      refine wp_seq ?_
      refine region_seq hS (by kernel_rfl)
        (cF rfl (o_move .t (by rfl)) r1 trivial
        (cF rfl (o_move .t (by rfl)) r1 trivial
        (cF rfl (OpC.lend 64 [76] setH_lend (o_callG1 65 (or_c b5 (rowN n) (minusL (ofL n l) (ofL n k)) (rowN n) (andL (ofL n l) (ofL n k))) Tryd.func39 rfl (by kernel_rfl) (Args.two .t .t)) ⟨trivial, rfl, trivial⟩ (.pv (fun _ _ _ _ h => h)) ⟨(fun _ _ _ _ _ _ _ _ h e k => setH_free h e k), trivial⟩ (by rfl)) r2 r2
        Chain.nil)))
        (by kernel_rfl) (by rw [hB]; kernel_rfl) ?_
      clear hS; intro a w F hS
      obtain ⟨F, hS⟩ := hS.norm [(6, _), (7, _), (11, _)] [(0, _), (9, _), (61, _), (62, _), (63, _), (64, _), (65, _)] r3 r7
      refine then_n ?_
      refine wp_seq ?_
      refine region_seq hS (by kernel_rfl)
        (cF rfl (o_move .t (by rfl)) r1 trivial
        (cF rfl (o_move .t (by rfl)) r1 trivial
        (cF rfl (OpC.lend 61 [79] setH_lend (OpC.lend 65 [78] setH_lend (o_callP (sameS_c (rowN n) (rowN n) (orL (minusL (ofL n l) (ofL n k)) (rowN n) (andL (ofL n l) (ofL n k))) (ofL n l)) Tryd.func36 rfl (by kernel_rfl) (Args.two .t .t)) ⟨rfl, trivial, trivial⟩ (.pv (fun _ _ _ _ h => h)) trivial (by rfl)) ⟨trivial, rfl, trivial⟩ (.pv (fun _ _ _ _ h => h)) trivial (by rfl)) r2 r2
        (cF rfl (o_assign .t (by rfl)) r1 trivial
        Chain.nil))))
        (by kernel_rfl) (by rw [hB]; kernel_rfl) ?_
      clear hS; intro a w F hS
      obtain ⟨F, hS⟩ := hS.norm [(6, _)] [(0, _), (9, _), (61, _), (62, _), (63, _), (64, _), (65, _)] r1 r7
      refine then_n ?_
      refine wp_ret ?_
      refine ret_P hfr hS rfl (.tmp rfl .nil) (.one (.bool (by first | rfl | exact hg)))

theorem back_c (n k : Int) (l : List Int) : FnPg Tryd.prog tabP tabV 5 [.int .i64 n, .int .i64 k, .sl rInt l] (.bool true) := by
  refine FnPg.mk Tryd.func5 rfl Tryd.ntmps5 rfl ?_
  intro B a w F hB hfr hS
  refine wp_seq ?_
  refine region_seq hS (by kernel_rfl)
    (cF rfl (o_assign .cb (by rfl)) trivial trivial
    Chain.nil)
    (by kernel_rfl) (by rw [hB]; kernel_rfl) ?_
  clear hS; intro a w F hS
  obtain ⟨F, hS⟩ := hS.norm [(0, _), (1, _), (2, _), (6, _)] [(0, _), (9, _)] r4 r2
  refine then_n ?_
  refine wp_seq ?_
  refine wp_seq ?_
  refine region_seq hS (by kernel_rfl)
    (cF rfl (o_callPg 9 (lives_c) Tryd.func25 rfl (by kernel_rfl) Args.nil) trivial r1
    (cF rfl (o_not .t) r1 trivial
    Chain.nil))
    (by kernel_rfl) (by rw [hB]; kernel_rfl) ?_
  clear hS; intro a w F hS
  obtain ⟨F, hS⟩ := hS.norm [(0, _), (1, _), (2, _), (6, _), (12, _)] [(0, _), (9, _)] r5 r2
  refine then_n ?_
  refine cond_b hS rfl (fun hc0 => ?_) (fun hc0 => ?_)
  ·skip
   simp at hc0
  ·skip
   refine wp_skip ?_
   refine then_n ?_
   refine wp_seq ?_
   refine wp_seq ?_
   refine region_seq hS (by kernel_rfl)
     (cF rfl (o_move .t (by rfl)) r1 trivial
     (cF rfl (o_len_sl Tryd.underlying22 .t) r1 trivial
     (cF rfl (o_gtr .t (.ci (by kernel_rfl))) r1 trivial
     (cF rfl (o_move .t (by rfl)) r1 trivial
     (Chain.cons (Cert.cond rfl rfl (fun h => o_move .t (by rfl))) r2 trivial
     (Chain.cons (Cert.cond rfl rfl (fun h => o_lss (.w h) (.ci (by kernel_rfl)))) r2 trivial
     (cF rfl (o_or2 .t .t) r2 trivial
     (cF rfl (o_move .t (by rfl)) r1 trivial
     (Chain.cons (Cert.cond rfl rfl (fun h => o_move .t (by rfl))) r2 trivial
     (Chain.cons (Cert.cond rfl rfl (fun h => o_gtr (.w h) (.ci (by kernel_rfl)))) r2 trivial
     (cF rfl (o_or2 .t .t) r2 trivial
     Chain.nil)))))))))))
     (by kernel_rfl) (by rw [hB]; kernel_rfl) ?_
   clear hS; intro a w F hS
   obtain ⟨F, hS⟩ := hS.norm [(0, _), (1, _), (2, _), (6, _), (23, _)] [(0, _), (9, _)] r5 r2
   refine then_n ?_
   refine cond_b hS rfl (fun hc1 => ?_) (fun hc1 => ?_)
   ·skip
    refine wp_seq ?_
    refine region_seq hS (by kernel_rfl)
      (cF rfl (o_assign .cb (by rfl)) trivial trivial
      Chain.nil)
      (by kernel_rfl) (by rw [hB]; kernel_rfl) ?_
    clear hS; intro a w F hS
    obtain ⟨F, hS⟩ := hS.norm [(0, _), (1, _), (2, _), (6, _)] [(0, _), (9, _)] r4 r2
    refine then_n ?_
    refine wp_ret ?_
    refine then_r ?_
    refine ret_P hfr hS rfl (.tmp rfl .nil) (.one (.bool (by first | rfl | exact hg)))
   ·skip
    have hkb : l.length ≤ 200 ∧ 0 ≤ k ∧ k ≤ 100000 := by simp at hc1; omega
    have hwk : IntKind.wrap .i64 (0 - k) = -k := by rw [wrap_i64 (by omega)]; omega
    have hup := ofL_up n l
    have hlen := hup.len
    have hnb := rowN_le n
    have hll : (ofL n l).length ≤ 9223372036854775807 := by omega
    refine wp_skip ?_
    refine then_n ?_
    refine wp_seq ?_
    replace hS := hS.dupG 9 61 rfl rfl
    refine region_seq hS (by kernel_rfl)
      (cF rfl (o_move .t (by rfl)) r1 trivial
      (cF rfl (o_move .t (by rfl)) r1 trivial
      (cF rfl (o_callNg 61 (ofS_c n l (by omega)) Tryd.func26 rfl (by kernel_rfl) (Args.two .t .t) PV.ptr_one) r2 r1
      (cF rfl (o_assign .t (by rfl)) r1 trivial
      Chain.nil))))
      (by kernel_rfl) (by rw [hB]; kernel_rfl) ?_
    clear hS; intro a w F hS
    replace hS := hS.sub
    obtain ⟨F, hS⟩ := hS.norm [(1, _), (6, _), (7, _)] [(0, _), (9, _), (61, _)] r3 r3
    try dsimp only [RS.sub, SF.sub, CF.sub, csub, Anc.sub, List.map] at hS
    generalize Act.tau a 26 = v26 at hS
    obtain ⟨_, _, _, ho⟩ := hS.obGet 61 rfl
    obtain ⟨b1, rfl⟩ := setH_ptr ho
    clear ho
    replace hS := hS.turn 61 rfl (r' := RS.hp (setH (.pointer (some ⟨b1, 0, none⟩)) (rowN n) (ofL n l))) (fun _ _ _ _ h => h)
    obtain ⟨F, hS⟩ := hS.norm [(1, _), (6, _), (7, _)] [(0, _), (9, _), (61, _)] r3 r3
    refine then_n ?_
    refine wp_seq ?_
    refine wp_seq ?_
    refine region_seq hS (by kernel_rfl)
      (cF rfl (o_move .t (by rfl)) r1 trivial
      (cF rfl (o_nil_eql _ Tryd.underlying46 rfl .t) r1 trivial
      (cF rfl (o_move .t (by rfl)) r1 trivial
      (Chain.cons (Cert.cond rfl rfl (fun h => o_move .t (by rfl))) r2 trivial
      (Chain.cons (Cert.cond rfl rfl (fun h => o_move .t (by rfl))) r2 trivial
      (Chain.cons (Cert.condR rfl rfl (by rfl) (fun h => o_callG1 61 (moved_g (.pointer (some ⟨b1, 0, none⟩)) (rowN n) (ofL n l) k) Tryd.func27 rfl (by kernel_rfl) (Args.two (.w h) (.w h)))) r3 r1
      (Chain.cons (Cert.cond rfl rfl (fun h => o_nn_eql Tryd.underlying46 (fun _ _ _ h => setR_ptr h) (.w h))) r2 trivial
      (cF rfl (o_or2 .t .t) r2 trivial
      (cF rfl (o_move .t (by rfl)) r1 trivial
      (Chain.cons (Cert.cond rfl rfl (fun h => o_move .t (by rfl))) r2 trivial
      (Chain.cons (Cert.cond rfl rfl (fun h => o_move .t (by rfl))) r2 trivial
      (Chain.cons (Cert.condR rfl rfl (by rfl) (fun h => o_callG1 61 (moved_g (.pointer (some ⟨b1, 0, none⟩)) (rowN n) (ofL n l) k) Tryd.func27 rfl (by kernel_rfl) (Args.two (.w h) (.w h)))) r3 r1
      (Chain.cons (Cert.cond rfl rfl (fun h => o_move .t (by rfl))) r2 trivial
      (Chain.cons (Cert.cond rfl rfl (fun h => o_neg (.w h))) r2 trivial
      (Chain.cons (Cert.cond rfl rfl (fun h => o_callP (moved_p (rowN n) (movedL (ofL n l) (rowN n) k) _) Tryd.func27 rfl (by kernel_rfl) (Args.two (.w h) (.w h)))) r3 trivial
      (Chain.cons (Cert.cond rfl rfl (fun h => o_nn_eql Tryd.underlying46 (fun _ _ _ h => setR_ptr h) (.w h))) r2 trivial
      (cF rfl (o_or2 .t .t) r2 trivial
      Chain.nil)))))))))))))))))
      (by kernel_rfl) (by rw [hB]; kernel_rfl) ?_
    clear hS; intro a w F hS
    obtain ⟨F, hS⟩ := hS.norm [(1, _), (6, _), (7, _), (43, _)] [(0, _), (9, _), (61, _)] r4 r3
    refine then_n ?_
    refine cond_b hS rfl (fun hc2 => ?_) (fun hc2 => ?_)
    ·skip
     simp at hc2
    ·skip
     refine wp_skip ?_
     refine then_n ?_
     refine wp_seq ?_
     refine region_seq hS (by kernel_rfl)
       (cF rfl (o_move .t (by rfl)) r1 trivial
       (cF rfl (o_move .t (by rfl)) r1 trivial
       (cF rfl (o_callG1 61 (moved_g (.pointer (some ⟨b1, 0, none⟩)) (rowN n) (ofL n l) k) Tryd.func27 rfl (by kernel_rfl) (Args.two .t .t)) r2 r1
       (cF rfl (o_move .t (by rfl)) r1 trivial
       (cF rfl (o_neg .t) r1 trivial
       (cF rfl (o_callP (moved_p (rowN n) (movedL (ofL n l) (rowN n) k) _) Tryd.func27 rfl (by kernel_rfl) (Args.two .t .t)) r2 trivial
       (cF rfl (o_assign .t (by rfl)) r1 trivial
       Chain.nil)))))))
       (by kernel_rfl) (by rw [hB]; kernel_rfl) ?_
     clear hS; intro a w F hS
     obtain ⟨F, hS⟩ := hS.norm [(1, _), (6, _), (7, _), (8, _)] [(0, _), (9, _), (61, _)] r4 r3
     rw [hwk] at hS
     refine then_n ?_
     refine wp_seq ?_
     refine wp_seq ?_
     refine region_seq hS (by kernel_rfl)
       (cF rfl (o_move .t (by rfl)) r1 trivial
       (cF rfl (o_callG1 61 (listG_c b1 (rowN n) (ofL n l)) Tryd.func28 rfl (by kernel_rfl) (Args.one .t)) r1 r1
       (cF rfl (o_len_sl Tryd.underlying22 .t) r1 trivial
       (cF rfl (o_move (.ci (by kernel_rfl)) (by rfl)) trivial trivial
       Chain.nil))))
       (by kernel_rfl) (by rw [hB]; kernel_rfl) ?_
     clear hS; intro a w F hS
     obtain ⟨F, hS⟩ := hS.norm [(1, _), (6, _), (7, _), (8, _), (51, _), (52, _), (53, _)] [(0, _), (9, _), (61, _)] r7 r3
     refine then_n ?_
     refine wp_block ?_
     refine loop_keep (σ := (Nat)) [1, 6, 7, 8, 51, 52] [0, 9, 61] (fun s => [(53, .pv (.int .i64 (s : Int)))]) (fun s => []) (fun s => s ≤ (ofL n l).length ∧ (True)) (fun s => (ofL n l).length - s) (0) hS ⟨rfl, rfl, rfl, rfl, rfl, rfl, rfl, trivial⟩ ⟨rfl, rfl, rfl, trivial⟩ ⟨Nat.zero_le _, trivial⟩ ?_
     clear hS; intro i a w F hC hS
     try dsimp only at hC
     obtain ⟨F, hS⟩ := hS.norm [(1, _), (6, _), (7, _), (8, _), (51, _), (52, _), (53, _)] [(0, _), (9, _), (61, _)] r7 r3
     try dsimp only at hS
     obtain ⟨hi, hq⟩ := hC
     refine wp_seq ?_
     refine region_seq hS (by kernel_rfl)
       (cF rfl (o_lss .t .t) r2 trivial
       Chain.nil)
       (by kernel_rfl) (by rw [hB]; kernel_rfl) ?_
     clear hS; intro a w F hS
     obtain ⟨F, hS⟩ := hS.norm [(1, _), (6, _), (7, _), (8, _), (51, _), (52, _), (53, _), (54, _)] [(0, _), (9, _), (61, _)] r8 r3
     refine then_n ?_
     refine wp_seq ?_
     refine cond_b hS rfl (fun hc3 => ?_) (fun hc3 => ?_)
     ·skip
      have hil : i < (ofL n l).length := by simp at hc3; omega
      refine wp_skip ?_
      refine then_n ?_
      refine wp_seq ?_
      refine wp_block ?_
      refine wp_seq ?_
      refine region_seq hS (by kernel_rfl)
        (cF rfl (o_indexAddr_sl (sz := 1) (.mk Tryd.underlying22 (by kernel_rfl)) (by intro x; rfl) .t .t (by first | assumption | omega) (by first | assumption | omega)) r2 trivial
        (cF rfl (o_load_ref (ag := false) (sz := 1) .t (by kernel_rfl) (by kernel_rfl) (by kernel_rfl)) r1 trivial
        (cF rfl (o_assign .t (by rfl)) r1 trivial
        Chain.nil)))
        (by kernel_rfl) (by rw [hB]; kernel_rfl) ?_
      clear hS; intro a w F hS
      obtain ⟨F, hS⟩ := hS.norm [(1, _), (6, _), (7, _), (8, _), (10, _), (51, _), (52, _), (53, _), (54, _), (55, _), (56, _)] [(0, _), (9, _), (61, _)] ⟨rfl, rfl, rfl, rfl, rfl, rfl, rfl, rfl, rfl, rfl, rfl, trivial⟩ r3
      try dsimp only [List.map, List.drop_succ_cons, List.drop_zero, List.drop_nil, List.take_succ_cons, List.take_zero, List.take_nil, ldSF] at hS
      try simp only [Int.toNat_natCast] at hS
      refine then_n ?_
      refine wp_seq ?_
      refine region_seq hS (by kernel_rfl)
        (cF rfl (o_move .t (by rfl)) r1 trivial
        (cF rfl (o_move .t (by rfl)) r1 trivial
        (cF rfl (o_callP (hasS_c (rowN n) (movedL (movedL (ofL n l) (rowN n) k) (rowN n) (-k)) _) Tryd.func29 rfl (by kernel_rfl) (Args.two .t .t)) r2 trivial
        (cF rfl (o_move .t (by rfl)) r1 trivial
        (cF rfl (o_move .t (by rfl)) r1 trivial
        (cF rfl (OpC.lend 61 [61] setH_lend (o_callP (len_c (rowN n) (ofL n l)) Tryd.func30 rfl (by kernel_rfl) (Args.one .t)) ⟨rfl, trivial⟩ (.pv (fun _ _ _ _ h => h)) trivial (by rfl)) r1 r1
        (cF rfl (o_move .t (by rfl)) r1 trivial
        (cF rfl (o_sub .t .t) r2 trivial
        (cF rfl (o_lss .t .t) r2 trivial
        (cF rfl (o_neqB Tryd.underlying4 .t .t) r2 trivial
        Chain.nil))))))))))
        (by kernel_rfl) (by rw [hB]; kernel_rfl) ?_
      clear hS; intro a w F hS
      obtain ⟨F, hS⟩ := hS.norm [(1, _), (6, _), (7, _), (8, _), (10, _), (51, _), (52, _), (53, _), (54, _), (55, _), (56, _), (57, _), (58, _), (59, _), (60, _), (61, _), (62, _), (63, _), (64, _), (65, _), (66, _)] [(0, _), (9, _), (61, _)] ⟨rfl, rfl, rfl, rfl, rfl, rfl, rfl, rfl, rfl, rfl, rfl, rfl, rfl, rfl, rfl, rfl, rfl, rfl, rfl, rfl, rfl, trivial⟩ r3
      refine then_n ?_
      refine cond_b hS rfl (fun hc4 => ?_) (fun hc4 => ?_)
      ·skip
       have hm := nth_mem hil
       have hb := mem_back hup hkb.2.1 (Go.Gm.nth (ofL n l) i)
       rw [wrap_i64 (by omega)] at hc4
       have e : decide (Go.Gm.nth (ofL n l) i ∈ (movedL (movedL (ofL n l) (rowN n) k) (rowN n) (-k))) = decide (Go.Gm.nth (ofL n l) i < (rowN n : Int) - k) := by rw [decide_eq_decide, hb]; simp [hm]
       rw [e] at hc4
       simp at hc4
      ·skip
       refine wp_skip ?_
       refine block_n ?_
       refine then_n ?_
       refine region_seq hS (by kernel_rfl)
         (cF rfl (o_add .t (.ci (by kernel_rfl))) r1 trivial
         (cF rfl (o_move .t (by rfl)) r1 trivial
         Chain.nil))
         (by kernel_rfl) (by rw [hB]; kernel_rfl) ?_
       clear hS; intro a w F hS
       obtain ⟨F, hS⟩ := hS.norm [(1, _), (6, _), (7, _), (8, _), (10, _), (51, _), (52, _), (53, _), (54, _), (55, _), (56, _), (57, _), (58, _), (59, _), (60, _), (61, _), (62, _), (63, _), (64, _), (65, _), (66, _), (67, _)] [(0, _), (9, _), (61, _)] ⟨rfl, rfl, rfl, rfl, rfl, rfl, rfl, rfl, rfl, rfl, rfl, rfl, rfl, rfl, rfl, rfl, rfl, rfl, rfl, rfl, rfl, rfl, trivial⟩ r3
       refine then_n ?_
       replace hS := hS.ent (i := 53) (s' := .pv (.int .i64 ((i + 1 : Nat) : Int))) rfl (.int (wrap_succ (by omega)))
       obtain ⟨F, hS⟩ := hS.norm [(53, _), (1, _), (6, _), (7, _), (8, _), (51, _), (52, _)] [(0, _), (9, _), (61, _)] ⟨rfl, rfl, rfl, rfl, rfl, rfl, rfl, trivial⟩ ⟨rfl, rfl, rfl, trivial⟩
       exact ⟨(i + 1), F, ⟨by omega, trivial⟩, hS, by omega⟩
     ·skip
      have hil : i = (ofL n l).length := by simp at hc3; omega
      have hub := movedL_up (movedL_up hup k) (-k)
      have hle := up_sub hub hup fun i hi => ((mem_back hup hkb.2.1 i).1 hi).1
      have hno : (rowN n : Int) ≤ k → (movedL (movedL (ofL n l) (rowN n) k) (rowN n) (-k)).length = 0 := fun h => by rw [back_none h]; rfl
      have hg : (decide (((movedL (movedL (ofL n l) (rowN n) k) (rowN n) (-k)).length : Int) ≤ (ofL n l).length) && decide ((rowN n : Int) = rowN n) && (decide (k < rowN n) || decide (((movedL (movedL (ofL n l) (rowN n) k) (rowN n) (-k)).length : Int) = 0))) = true := by
        by_cases hkn : k < rowN n
        · simp [hkn]; omega
        · have := hno (by omega); simp [hkn, this]
      refine wp_exit ?_
      refine then_x ?_
      refine then_x ?_
      refine block_x ?_
      refine then_n ?_
      refine wp_seq ?_
      refine region_seq hS (by kernel_rfl)
        (cF rfl (o_move .t (by rfl)) r1 trivial
        (cF rfl (o_callP (countS_c (rowN n) (movedL (movedL (ofL n l) (rowN n) k) (rowN n) (-k))) Tryd.func31 rfl (by kernel_rfl) (Args.one .t)) r1 trivial
        (cF rfl (o_move .t (by rfl)) r1 trivial
        (cF rfl (OpC.lend 61 [70] setH_lend (o_callP (countS_c (rowN n) (ofL n l)) Tryd.func31 rfl (by kernel_rfl) (Args.one .t)) ⟨rfl, trivial⟩ (.pv (fun _ _ _ _ h => h)) trivial (by rfl)) r1 r1
        (cF rfl (o_leq .t .t) r2 trivial
        (cF rfl (o_move .t (by rfl)) r1 trivial
        (Chain.cons (Cert.cond rfl rfl (fun h => o_move .t (by rfl))) r2 trivial
        (Chain.cons (Cert.cond rfl rfl (fun h => o_callP (len_c (rowN n) (movedL (movedL (ofL n l) (rowN n) k) (rowN n) (-k))) Tryd.func30 rfl (by kernel_rfl) (Args.one (.w h)))) r2 trivial
        (Chain.cons (Cert.cond rfl rfl (fun h => o_move .t (by rfl))) r2 trivial
        (Chain.cons (Cert.cond rfl rfl (fun h => OpC.lend 61 [76] setH_lend (o_callP (len_c (rowN n) (ofL n l)) Tryd.func30 rfl (by kernel_rfl) (Args.one (.w h))) ⟨rfl, trivial⟩ (.pv (fun _ _ _ _ h => h)) trivial (by rfl))) r2 r1
        (Chain.cons (Cert.cond rfl rfl (fun h => o_eql (.w h) (.w h))) r3 trivial
        (cF rfl (o_and2 .t .t) r2 trivial
        (cF rfl (o_move .t (by rfl)) r1 trivial
        (Chain.cons (Cert.cond rfl rfl (fun h => o_move .t (by rfl))) r2 trivial
        (Chain.cons (Cert.cond rfl rfl (fun h => o_move .t (by rfl))) r2 trivial
        (Chain.cons (Cert.cond rfl rfl (fun h => OpC.lend 61 [82] setH_lend (o_callP (len_c (rowN n) (ofL n l)) Tryd.func30 rfl (by kernel_rfl) (Args.one (.w h))) ⟨rfl, trivial⟩ (.pv (fun _ _ _ _ h => h)) trivial (by rfl))) r2 r1
        (Chain.cons (Cert.cond rfl rfl (fun h => o_lss (.w h) (.w h))) r3 trivial
        (Chain.cons (Cert.cond rfl rfl (fun h => o_move (.w h) (by rfl))) r2 trivial
        (Chain.cons (Cert.cond2 rfl rfl (fun h => o_move .t (by rfl))) r2 trivial
        (Chain.cons (Cert.cond2 rfl rfl (fun h => o_callP (countS_c (rowN n) (movedL (movedL (ofL n l) (rowN n) k) (rowN n) (-k))) Tryd.func31 rfl (by kernel_rfl) (Args.one (.w h)))) r2 trivial
        (Chain.cons (Cert.cond2 rfl rfl (fun h => o_eql (.w h) (.ci (by kernel_rfl)))) r2 trivial
        (Chain.cons (Cert.cond rfl rfl (fun h => o_or2 (.w h) (.wc h))) r3 trivial
        (cF rfl (o_and2 .t .t) r2 trivial
        (cF rfl (o_assign .t (by rfl)) r1 trivial
        Chain.nil))))))))))))))))))))))))
        (by kernel_rfl) (by rw [hB]; kernel_rfl) ?_
      clear hS; intro a w F hS
      obtain ⟨F, hS⟩ := hS.norm [(6, _)] [(0, _), (9, _), (61, _)] r1 r3
      refine then_n ?_
      refine wp_ret ?_
      refine ret_P hfr hS rfl (.tmp rfl .nil) (.one (.bool (by first | rfl | exact hg)))

end Go.Proofs.YtdfpljecogijaaaDoor
