/- OrderTells. No condition beyond those that each theorem says. -/
import Derived.Test.YtpjjmolibanakaaOr8
namespace Go.Proofs.Ytpjjmolibanakaa
open Go Go.Gm
set_option linter.unusedVariables false
set_option linter.unusedSimpArgs false
set_option maxHeartbeats 4000000
set_option maxRecDepth 8000


theorem orderTells_c (x y : List Int) (tx place : Int) : FnP Try.prog 4 [.sl rInt x, .sl rInt y, .int .i64 tx, .int .i64 place] (.bool true) := by
  refine FnP.mk Try.func4 rfl Try.ntmps4 rfl ?_
  intro B a w F hB hfr hS
  have hxl := Sat.lenSl hS (i := 0) rfl
  have hyl := Sat.lenSl hS (i := 1) rfl
  refine wp_seq ?_
  refine region_seq hS (by kernel_rfl)
    (cF rfl (o_assign .cb (by rfl)) trivial trivial
    Chain.nil)
    (by kernel_rfl) (by rw [hB]; kernel_rfl) ?_
  clear hS; intro a w F hS
  obtain ⟨F, hS⟩ := hS.norm [(0, _), (1, _), (2, _), (3, _), (8, _)] [(0, _)] r5 r1
  try dsimp only [rInt, rPair] at hS
  refine then_n ?_
  refine wp_seq ?_
  refine wp_seq ?_
  refine region_seq hS (by kernel_rfl)
    (cF rfl (o_move .t (by rfl)) r1 trivial
    (cF rfl (o_len_sl Try.underlying30 .t) r1 trivial
    (cF rfl (o_gtr .t (.ci (by kernel_rfl))) r1 trivial
    (cF rfl (o_move .t (by rfl)) r1 trivial
    (Chain.cons (Cert.cond rfl rfl (fun h => o_move .t (by rfl))) r2 trivial
    (Chain.cons (Cert.cond rfl rfl (fun h => o_len_sl Try.underlying30 (.w h))) r2 trivial
    (Chain.cons (Cert.cond rfl rfl (fun h => o_gtr (.w h) (.ci (by kernel_rfl)))) r2 trivial
    (cF rfl (o_or2 .t .t) r2 trivial
    Chain.nil))))))))
    (by kernel_rfl) (by rw [hB]; kernel_rfl) ?_
  clear hS; intro a w F hS
  obtain ⟨F, hS⟩ := hS.norm [(0, _), (1, _), (2, _), (3, _), (8, _), (32, _)] [(0, _)] r6 r1
  try dsimp only [rInt, rPair] at hS
  refine then_n ?_
  refine cond_b hS rfl (fun hc0 => ?_) (fun hc0 => ?_)
  ·skip
   refine wp_seq ?_
   refine region_seq hS (by kernel_rfl)
     (cF rfl (o_callP (lives11_c) Try.func16 rfl (by kernel_rfl) Args.nil) trivial trivial
     (cF rfl (o_assign .t (by rfl)) r1 trivial
     Chain.nil))
     (by kernel_rfl) (by rw [hB]; kernel_rfl) ?_
   clear hS; intro a w F hS
   obtain ⟨F, hS⟩ := hS.norm [(0, _), (1, _), (2, _), (3, _), (8, _)] [(0, _)] r5 r1
   try dsimp only [rInt, rPair] at hS
   refine then_n ?_
   refine wp_ret ?_
   refine then_r ?_
   refine ret_P hfr hS rfl (.tmp rfl .nil) (.one (.bool (by first | rfl | simp)))
  ·skip
   have hl60 : x.length ≤ 60 ∧ y.length ≤ 60 := by simp at hc0; omega
   refine wp_skip ?_
   refine then_n ?_
   refine wp_seq ?_
   refine region_seq hS (by kernel_rfl)
     (cF rfl (o_move .t (by rfl)) r1 trivial
     (cF rfl (o_move .t (by rfl)) r1 trivial
     (cF rfl (o_callP (onext_c x tx) Try.func17 rfl (by kernel_rfl) (Args.two .t .t)) r2 trivial
     (cF rfl (o_move .t (by rfl)) r1 trivial
     (cF rfl (o_extract .t rfl) r1 trivial
     (cF rfl (o_extract .t rfl) r1 trivial
     (cF rfl (o_assign .t (by rfl)) r1 trivial
     (cF rfl (o_assign .t (by rfl)) r1 trivial
     Chain.nil))))))))
     (by kernel_rfl) (by rw [hB]; kernel_rfl) ?_
   clear hS; intro a w F hS
   obtain ⟨F, hS⟩ := hS.norm [(0, _), (1, _), (2, _), (3, _), (8, _), (9, _), (10, _)] [(0, _)] r7 r1
   try dsimp only [rInt, rPair] at hS
   refine then_n ?_
   refine wp_seq ?_
   refine region_seq hS (by kernel_rfl)
     (cF rfl (o_move .t (by rfl)) r1 trivial
     (cF rfl (o_move .t (by rfl)) r1 trivial
     (cF rfl (o_callP (next11_c x tx) Try.func18 rfl (by kernel_rfl) (Args.two .t .t)) r2 trivial
     (cF rfl (o_move .t (by rfl)) r1 trivial
     (cF rfl (o_extract .t rfl) r1 trivial
     (cF rfl (o_extract .t rfl) r1 trivial
     (cF rfl (o_assign .t (by rfl)) r1 trivial
     (cF rfl (o_assign .t (by rfl)) r1 trivial
     Chain.nil))))))))
     (by kernel_rfl) (by rw [hB]; kernel_rfl) ?_
   clear hS; intro a w F hS
   obtain ⟨F, hS⟩ := hS.norm [(0, _), (1, _), (2, _), (3, _), (8, _), (9, _), (10, _), (11, _), (12, _)] [(0, _)] ⟨rfl, rfl, rfl, rfl, rfl, rfl, rfl, rfl, rfl, trivial⟩ r1
   try dsimp only [rInt, rPair] at hS
   refine then_n ?_
   refine wp_seq ?_
   refine region_seq hS (by kernel_rfl)
     (cF rfl (o_move .t (by rfl)) r1 trivial
     (cF rfl (o_move .t (by rfl)) r1 trivial
     (cF rfl (o_callP (oprev_c x tx) Try.func19 rfl (by kernel_rfl) (Args.two .t .t)) r2 trivial
     (cF rfl (o_move .t (by rfl)) r1 trivial
     (cF rfl (o_extract .t rfl) r1 trivial
     (cF rfl (o_extract .t rfl) r1 trivial
     (cF rfl (o_assign .t (by rfl)) r1 trivial
     (cF rfl (o_assign .t (by rfl)) r1 trivial
     Chain.nil))))))))
     (by kernel_rfl) (by rw [hB]; kernel_rfl) ?_
   clear hS; intro a w F hS
   obtain ⟨F, hS⟩ := hS.norm [(0, _), (1, _), (2, _), (3, _), (8, _), (9, _), (10, _), (11, _), (12, _), (13, _), (14, _)] [(0, _)] ⟨rfl, rfl, rfl, rfl, rfl, rfl, rfl, rfl, rfl, rfl, rfl, trivial⟩ r1
   try dsimp only [rInt, rPair] at hS
   refine then_n ?_
   refine wp_seq ?_
   refine region_seq hS (by kernel_rfl)
     (cF rfl (o_move .t (by rfl)) r1 trivial
     (cF rfl (o_move .t (by rfl)) r1 trivial
     (cF rfl (o_callP (prev11_c x tx) Try.func20 rfl (by kernel_rfl) (Args.two .t .t)) r2 trivial
     (cF rfl (o_move .t (by rfl)) r1 trivial
     (cF rfl (o_extract .t rfl) r1 trivial
     (cF rfl (o_extract .t rfl) r1 trivial
     (cF rfl (o_assign .t (by rfl)) r1 trivial
     (cF rfl (o_assign .t (by rfl)) r1 trivial
     Chain.nil))))))))
     (by kernel_rfl) (by rw [hB]; kernel_rfl) ?_
   clear hS; intro a w F hS
   obtain ⟨F, hS⟩ := hS.norm [(0, _), (1, _), (2, _), (3, _), (8, _), (9, _), (10, _), (11, _), (12, _), (13, _), (14, _), (15, _), (16, _)] [(0, _)] ⟨rfl, rfl, rfl, rfl, rfl, rfl, rfl, rfl, rfl, rfl, rfl, rfl, rfl, trivial⟩ r1
   try dsimp only [rInt, rPair] at hS
   refine then_n ?_
   refine wp_seq ?_
   refine region_seq hS (by kernel_rfl)
     (cF rfl (o_move .t (by rfl)) r1 trivial
     (cF rfl (o_move .t (by rfl)) r1 trivial
     (cF rfl (o_move .t (by rfl)) r1 trivial
     (cF rfl (o_callP (omove_c x tx place (by omega)) Try.func21 rfl (by kernel_rfl) (Args.three .t .t .t)) r3 trivial
     (cF rfl (o_move .t (by rfl)) r1 trivial
     (cF rfl (o_extract .t rfl) r1 trivial
     (cF rfl (o_extract .t rfl) r1 trivial
     (cF rfl (o_assign .t (by rfl)) r1 trivial
     (cF rfl (o_assign .t (by rfl)) r1 trivial
     Chain.nil)))))))))
     (by kernel_rfl) (by rw [hB]; kernel_rfl) ?_
   clear hS; intro a w F hS
   obtain ⟨F, hS⟩ := hS.norm [(0, _), (1, _), (2, _), (3, _), (8, _), (9, _), (10, _), (11, _), (12, _), (13, _), (14, _), (15, _), (16, _), (17, _), (18, _)] [(0, _)] ⟨rfl, rfl, rfl, rfl, rfl, rfl, rfl, rfl, rfl, rfl, rfl, rfl, rfl, rfl, rfl, trivial⟩ r1
   try dsimp only [rInt, rPair] at hS
   refine then_n ?_
   refine wp_seq ?_
   refine region_seq hS (by kernel_rfl)
     (cF rfl (o_move .t (by rfl)) r1 trivial
     (cF rfl (o_move .t (by rfl)) r1 trivial
     (cF rfl (o_move .t (by rfl)) r1 trivial
     (cF rfl (o_callP (move11_c x tx place (by omega)) Try.func22 rfl (by kernel_rfl) (Args.three .t .t .t)) r3 trivial
     (cF rfl (o_move .t (by rfl)) r1 trivial
     (cF rfl (o_extract .t rfl) r1 trivial
     (cF rfl (o_extract .t rfl) r1 trivial
     (cF rfl (o_assign .t (by rfl)) r1 trivial
     (cF rfl (o_assign .t (by rfl)) r1 trivial
     Chain.nil)))))))))
     (by kernel_rfl) (by rw [hB]; kernel_rfl) ?_
   clear hS; intro a w F hS
   obtain ⟨F, hS⟩ := hS.norm [(0, _), (1, _), (2, _), (8, _), (9, _), (10, _), (11, _), (12, _), (13, _), (14, _), (15, _), (16, _), (17, _), (18, _), (19, _), (20, _)] [(0, _)] ⟨rfl, rfl, rfl, rfl, rfl, rfl, rfl, rfl, rfl, rfl, rfl, rfl, rfl, rfl, rfl, rfl, trivial⟩ r1
   try dsimp only [rInt, rPair] at hS
   refine then_n ?_
   refine wp_seq ?_
   refine region_seq hS (by kernel_rfl)
     (cF rfl (o_move .t (by rfl)) r1 trivial
     (cF rfl (o_move .t (by rfl)) r1 trivial
     (cF rfl (o_callP (osteps_c x y (by omega) (by omega)) Try.func23 rfl (by kernel_rfl) (Args.two .t .t)) r2 trivial
     (cF rfl (o_move .t (by rfl)) r1 trivial
     (cF rfl (o_extract .t rfl) r1 trivial
     (cF rfl (o_extract .t rfl) r1 trivial
     (cF rfl (o_assign .t (by rfl)) r1 trivial
     (cF rfl (o_assign .t (by rfl)) r1 trivial
     Chain.nil))))))))
     (by kernel_rfl) (by rw [hB]; kernel_rfl) ?_
   clear hS; intro a w F hS
   obtain ⟨F, hS⟩ := hS.norm [(0, _), (1, _), (2, _), (8, _), (9, _), (10, _), (11, _), (12, _), (13, _), (14, _), (15, _), (16, _), (17, _), (18, _), (19, _), (20, _), (21, _), (22, _)] [(0, _)] ⟨rfl, rfl, rfl, rfl, rfl, rfl, rfl, rfl, rfl, rfl, rfl, rfl, rfl, rfl, rfl, rfl, rfl, rfl, trivial⟩ r1
   try dsimp only [rInt, rPair] at hS
   refine then_n ?_
   refine wp_seq ?_
   refine region_seq hS (by kernel_rfl)
     (cF rfl (o_move .t (by rfl)) r1 trivial
     (cF rfl (o_move .t (by rfl)) r1 trivial
     (cF rfl (o_callP (steps11_c x y (by omega) (by omega)) Try.func24 rfl (by kernel_rfl) (Args.two .t .t)) r2 trivial
     (cF rfl (o_move .t (by rfl)) r1 trivial
     (cF rfl (o_extract .t rfl) r1 trivial
     (cF rfl (o_extract .t rfl) r1 trivial
     (cF rfl (o_assign .t (by rfl)) r1 trivial
     (cF rfl (o_assign .t (by rfl)) r1 trivial
     Chain.nil))))))))
     (by kernel_rfl) (by rw [hB]; kernel_rfl) ?_
   clear hS; intro a w F hS
   obtain ⟨F, hS⟩ := hS.norm [(0, _), (1, _), (2, _), (8, _), (9, _), (10, _), (11, _), (12, _), (13, _), (14, _), (15, _), (16, _), (17, _), (18, _), (19, _), (20, _), (21, _), (22, _), (23, _), (24, _)] [(0, _)] ⟨rfl, rfl, rfl, rfl, rfl, rfl, rfl, rfl, rfl, rfl, rfl, rfl, rfl, rfl, rfl, rfl, rfl, rfl, rfl, rfl, trivial⟩ r1
   try dsimp only [rInt, rPair] at hS
   refine then_n ?_
   refine wp_seq ?_
   refine wp_seq ?_
   refine region_seqN hS (by kernel_rfl)
     (cG rfl (o_move .t (by rfl)) r1 trivial
     (cG rfl (o_move .t (by rfl)) r1 trivial
     (cG rfl (o_neq .t .t) r2 trivial
     (cG rfl (o_move .t (by rfl)) r1 trivial
     (ChainN.cons (Cert.cond rfl rfl (fun h => o_move .t (by rfl))) r2 trivial
     (ChainN.cons (Cert.cond rfl rfl (fun h => o_move .t (by rfl))) r2 trivial
     (ChainN.cons (Cert.cond rfl rfl (fun h => o_neqB Try.underlying4 (.w h) (.w h))) r3 trivial
     (cG rfl (o_or2 .t .t) r2 trivial
     (cG rfl (o_move .t (by rfl)) r1 trivial
     (ChainN.cons (Cert.cond rfl rfl (fun h => o_move .t (by rfl))) r2 trivial
     (ChainN.cons (Cert.cond rfl rfl (fun h => o_move .t (by rfl))) r2 trivial
     (ChainN.cons (Cert.cond rfl rfl (fun h => o_neq (.w h) (.w h))) r3 trivial
     (cG rfl (o_or2 .t .t) r2 trivial
     (cG rfl (o_move .t (by rfl)) r1 trivial
     (ChainN.cons (Cert.cond rfl rfl (fun h => o_move .t (by rfl))) r2 trivial
     (ChainN.cons (Cert.cond rfl rfl (fun h => o_move .t (by rfl))) r2 trivial
     (ChainN.cons (Cert.cond rfl rfl (fun h => o_neqB Try.underlying4 (.w h) (.w h))) r3 trivial
     (cG rfl (o_or2 .t .t) r2 trivial
     (cG rfl (o_move .t (by rfl)) r1 trivial
     (ChainN.cons (Cert.cond rfl rfl (fun h => o_move .t (by rfl))) r2 trivial
     (ChainN.cons (Cert.cond rfl rfl (fun h => o_move .t (by rfl))) r2 trivial
     (ChainN.cons (Cert.cond rfl rfl (fun h => o_neq (.w h) (.w h))) r3 trivial
     (cG rfl (o_or2 .t .t) r2 trivial
     (cG rfl (o_move .t (by rfl)) r1 trivial
     (ChainN.norm [(0, _), (1, _), (2, _), (8, _), (17, _), (19, _), (21, _), (22, _), (23, _), (24, _), (107, _)] [(0, _)] ⟨rfl, rfl, rfl, rfl, rfl, rfl, rfl, rfl, rfl, rfl, rfl, trivial⟩ r1
     (ChainN.cons (Cert.cond rfl rfl (fun h => o_move .t (by rfl))) r2 trivial
     (ChainN.cons (Cert.cond rfl rfl (fun h => o_move .t (by rfl))) r2 trivial
     (ChainN.cons (Cert.cond rfl rfl (fun h => o_callP (sameInts_c _ _) Try.func25 rfl (by kernel_rfl) (Args.two (.w h) (.w h)))) r3 trivial
     (ChainN.cons (Cert.cond rfl rfl (fun h => o_not (.w h))) r2 trivial
     (cG rfl (o_or2 .t .t) r2 trivial
     (cG rfl (o_move .t (by rfl)) r1 trivial
     (ChainN.cons (Cert.cond rfl rfl (fun h => o_move .t (by rfl))) r2 trivial
     (ChainN.cons (Cert.cond rfl rfl (fun h => o_move .t (by rfl))) r2 trivial
     (ChainN.cons (Cert.cond rfl rfl (fun h => o_neq (.w h) (.w h))) r3 trivial
     (cG rfl (o_or2 .t .t) r2 trivial
     (cG rfl (o_move .t (by rfl)) r1 trivial
     (ChainN.cons (Cert.cond rfl rfl (fun h => o_move .t (by rfl))) r2 trivial
     (ChainN.cons (Cert.cond rfl rfl (fun h => o_move .t (by rfl))) r2 trivial
     (ChainN.cons (Cert.cond rfl rfl (fun h => o_callP (same06_c _ _) Try.func26 rfl (by kernel_rfl) (Args.two (.w h) (.w h)))) r3 trivial
     (ChainN.cons (Cert.cond rfl rfl (fun h => o_not (.w h))) r2 trivial
     (cG rfl (o_or2 .t .t) r2 trivial
     ChainN.nil)))))))))))))))))))))))))))))))))))))))))
     (by kernel_rfl) (by rw [hB]; kernel_rfl) ?_
   clear hS; intro a w F hS
   obtain ⟨F, hS⟩ := hS.norm [(0, _), (1, _), (2, _), (8, _), (123, _)] [(0, _)] r5 r1
   try dsimp only [rInt, rPair] at hS
   refine then_n ?_
   refine cond_b hS rfl (fun hc1 => ?_) (fun hc1 => ?_)
   ·skip
    simp at hc1
   ·skip
    refine wp_skip ?_
    refine then_n ?_
    refine wp_seq ?_
    refine region_seqN hS (by kernel_rfl)
      (cG rfl (o_move .t (by rfl)) r1 trivial
      (cG rfl (o_callP (oright_c x) Try.func27 rfl (by kernel_rfl) (Args.one .t)) r1 trivial
      (cG rfl (o_move .t (by rfl)) r1 trivial
      (cG rfl (o_callP (right11_c x) Try.func28 rfl (by kernel_rfl) (Args.one .t)) r1 trivial
      (cG rfl (o_eqlB Try.underlying4 .t .t) r2 trivial
      (cG rfl (o_move .t (by rfl)) r1 trivial
      (ChainN.cons (Cert.cond rfl rfl (fun h => o_move .t (by rfl))) r2 trivial
      (ChainN.cons (Cert.cond rfl rfl (fun h => o_move .t (by rfl))) r2 trivial
      (ChainN.cons (Cert.cond rfl rfl (fun h => o_callP (perm_c x y (by omega) (by omega)) Try.func29 rfl (by kernel_rfl) (Args.two (.w h) (.w h)))) r3 trivial
      (ChainN.cons (Cert.cond rfl rfl (fun h => o_move .t (by rfl))) r2 trivial
      (ChainN.cons (Cert.cond rfl rfl (fun h => o_move .t (by rfl))) r2 trivial
      (ChainN.cons (Cert.cond rfl rfl (fun h => o_callP (perm11_c x y) Try.func30 rfl (by kernel_rfl) (Args.two (.w h) (.w h)))) r3 trivial
      (ChainN.cons (Cert.cond rfl rfl (fun h => o_eqlB Try.underlying4 (.w h) (.w h))) r3 trivial
      (cG rfl (o_and2 .t .t) r2 trivial
      (cG rfl (o_move .t (by rfl)) r1 trivial
      (ChainN.cons (Cert.cond rfl rfl (fun h => o_move .t (by rfl))) r2 trivial
      (ChainN.cons (Cert.cond rfl rfl (fun h => o_move .t (by rfl))) r2 trivial
      (ChainN.cons (Cert.cond rfl rfl (fun h => o_callP (osame_c x y) Try.func31 rfl (by kernel_rfl) (Args.two (.w h) (.w h)))) r3 trivial
      (ChainN.cons (Cert.cond rfl rfl (fun h => o_move .t (by rfl))) r2 trivial
      (ChainN.cons (Cert.cond rfl rfl (fun h => o_move .t (by rfl))) r2 trivial
      (ChainN.cons (Cert.cond rfl rfl (fun h => o_callP (sameInts_c x y) Try.func25 rfl (by kernel_rfl) (Args.two (.w h) (.w h)))) r3 trivial
      (ChainN.cons (Cert.cond rfl rfl (fun h => o_eqlB Try.underlying4 (.w h) (.w h))) r3 trivial
      (cG rfl (o_and2 .t .t) r2 trivial
      (cG rfl (o_move .t (by rfl)) r1 trivial
      (ChainN.norm [(0, _), (2, _), (8, _), (147, _)] [(0, _)] r4 r1
      (ChainN.cons (Cert.cond rfl rfl (fun h => o_move .t (by rfl))) r2 trivial
      (ChainN.cons (Cert.cond rfl rfl (fun h => o_move .t (by rfl))) r2 trivial
      (ChainN.cons (Cert.cond rfl rfl (fun h => o_callP (owith_c x tx (by omega)) Try.func32 rfl (by kernel_rfl) (Args.two (.w h) (.w h)))) r3 trivial
      (ChainN.cons (Cert.cond rfl rfl (fun h => o_move .t (by rfl))) r2 trivial
      (ChainN.cons (Cert.cond rfl rfl (fun h => o_move .t (by rfl))) r2 trivial
      (ChainN.cons (Cert.cond rfl rfl (fun h => o_callP (with11_c x tx (by omega)) Try.func33 rfl (by kernel_rfl) (Args.two (.w h) (.w h)))) r3 trivial
      (ChainN.cons (Cert.cond rfl rfl (fun h => o_callP (sameInts_c _ _) Try.func25 rfl (by kernel_rfl) (Args.two (.w h) (.w h)))) r3 trivial
      (cG rfl (o_and2 .t .t) r2 trivial
      (cG rfl (o_move .t (by rfl)) r1 trivial
      (ChainN.cons (Cert.cond rfl rfl (fun h => o_move .t (by rfl))) r2 trivial
      (ChainN.cons (Cert.cond rfl rfl (fun h => o_move .t (by rfl))) r2 trivial
      (ChainN.cons (Cert.cond rfl rfl (fun h => o_callP (owithout_c x tx (by omega)) Try.func34 rfl (by kernel_rfl) (Args.two (.w h) (.w h)))) r3 trivial
      (ChainN.cons (Cert.cond rfl rfl (fun h => o_move .t (by rfl))) r2 trivial
      (ChainN.cons (Cert.cond rfl rfl (fun h => o_move .t (by rfl))) r2 trivial
      (ChainN.cons (Cert.cond rfl rfl (fun h => o_callP (without11_c x tx (by omega)) Try.func35 rfl (by kernel_rfl) (Args.two (.w h) (.w h)))) r3 trivial
      (ChainN.cons (Cert.cond rfl rfl (fun h => o_callP (sameInts_c _ _) Try.func25 rfl (by kernel_rfl) (Args.two (.w h) (.w h)))) r3 trivial
      (cG rfl (o_and2 .t .t) r2 trivial
      (cG rfl (o_move .t (by rfl)) r1 trivial
      (ChainN.cons (Cert.cond rfl rfl (fun h => o_callP (lives11_c) Try.func16 rfl (by kernel_rfl) Args.nil)) r1 trivial
      (cG rfl (o_and2 .t .t) r2 trivial
      (cG rfl (o_assign .t (by rfl)) r1 trivial
      ChainN.nil))))))))))))))))))))))))))))))))))))))))))))))
      (by kernel_rfl) (by rw [hB]; kernel_rfl) ?_
    clear hS; intro a w F hS
    obtain ⟨F, hS⟩ := hS.norm [(8, _)] [(0, _)] r1 r1
    try dsimp only [rInt, rPair] at hS
    refine then_n ?_
    refine wp_ret ?_
    refine ret_P hfr hS rfl (.tmp rfl .nil) (.one (.bool (by first | rfl | simp)))

end Go.Proofs.Ytpjjmolibanakaa
