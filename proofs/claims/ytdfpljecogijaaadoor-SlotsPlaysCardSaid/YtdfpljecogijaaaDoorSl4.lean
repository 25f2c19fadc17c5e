/- Slots: lives. No condition beyond those that each theorem says. -/
import Derived.Test.YtdfpljecogijaaaDoorSl3
namespace Go.Proofs.YtdfpljecogijaaaDoor
open Go Go.Gm
set_option linter.unusedVariables false
set_option linter.unusedSimpArgs false
set_option maxHeartbeats 4000000
set_option maxRecDepth 8000


theorem livesS_c  : FnPg Tryd.prog tabP tabV 11 [] (.bool true) := by
  refine FnPg.mk Tryd.func11 rfl Tryd.ntmps11 rfl ?_
  intro B a w F hB hfr hS
  refine wp_seq ?_
  refine region_seq hS (by kernel_rfl)
    (cF rfl (o_assign .cb (by rfl)) trivial trivial
    Chain.nil)
    (by kernel_rfl) (by rw [hB]; kernel_rfl) ?_
  clear hS; intro a w F hS
  obtain ⟨F, hS⟩ := hS.norm [(0, _)] [(0, _), (9, _)] r1 r2
  refine then_n ?_
  refine wp_seq ?_
  replace hS := hS.dupG 9 61 rfl rfl
  refine region_seq hS (by kernel_rfl)
    (cF rfl (o_callNg 61 (snew_c 3) Tryd.func10 rfl (by kernel_rfl) (Args.one (.ci (by kernel_rfl))) PV.ptr_one) trivial r1
    (cF rfl (o_assign .t (by rfl)) r1 trivial
    Chain.nil))
    (by kernel_rfl) (by rw [hB]; kernel_rfl) ?_
  clear hS; intro a w F hS
  replace hS := hS.sub
  obtain ⟨F, hS⟩ := hS.norm [(0, _), (1, _)] [(0, _), (9, _), (61, _)] r2 r3
  try dsimp only [RS.sub, SF.sub, CF.sub, csub, Anc.sub, List.map] at hS
  generalize Act.tau a 29 = v29 at hS
  obtain ⟨_, _, _, ho⟩ := hS.obGet 61 rfl
  obtain ⟨b1, rfl⟩ := slotsH_ptr ho
  clear ho
  replace hS := hS.turn 61 rfl (r' := RS.hp (slotsH (.pointer (some ⟨b1, 0, none⟩)) (roomN 3) (zerosI (roomN 3)))) (fun _ _ _ _ h => h)
  obtain ⟨F, hS⟩ := hS.norm [(0, _), (1, _)] [(0, _), (9, _), (61, _)] r2 r3
  rw [show zerosI (roomN 3) = [0, 0, 0] from rfl, show roomN 3 = 3 from rfl] at hS
  refine then_n ?_
  refine wp_seq ?_
  refine wp_seq ?_
  refine region_seq hS (by kernel_rfl)
    (cF rfl (o_move .t (by rfl)) r1 trivial
    (cF rfl (o_nil_eql _ Tryd.underlying23 rfl .t) r1 trivial
    Chain.nil))
    (by kernel_rfl) (by rw [hB]; kernel_rfl) ?_
  clear hS; intro a w F hS
  obtain ⟨F, hS⟩ := hS.norm [(0, _), (1, _), (31, _)] [(0, _), (9, _), (61, _)] r3 r3
  refine then_n ?_
  refine cond_b hS rfl (fun hc0 => ?_) (fun hc0 => ?_)
  ·skip
   simp at hc0
  ·skip
   refine wp_skip ?_
   refine then_n ?_
   refine wp_seq ?_
   refine region_seq hS (by kernel_rfl)
     (cF rfl (o_move .t (by rfl)) r1 trivial
     (cF rfl (o_callG1 61 (take_c b1 3 [0, 0, 0] 7) Tryd.func16 rfl (by kernel_rfl) (Args.two .t (.ci (by kernel_rfl)))) r1 r1
     (cF rfl (o_move .t (by rfl)) r1 trivial
     (cF rfl (o_extract .t rfl) r1 trivial
     (cF rfl (o_extract .t rfl) r1 trivial
     (cF rfl (o_assign .t (by rfl)) r1 trivial
     (cF rfl (o_assign .t (by rfl)) r1 trivial
     Chain.nil)))))))
     (by kernel_rfl) (by rw [hB]; kernel_rfl) ?_
   clear hS; intro a w F hS
   obtain ⟨F, hS⟩ := hS.norm [(0, _), (1, _), (2, _), (3, _)] [(0, _), (9, _), (61, _)] r4 r3
   rw [show takeI 3 [0, 0, 0] 7 = ([7, 0, 0], 0, 0) from by decide +kernel] at hS
   try dsimp only at hS
   refine then_n ?_
   refine wp_seq ?_
   refine region_seq hS (by kernel_rfl)
     (cF rfl (o_move .t (by rfl)) r1 trivial
     (cF rfl (o_callG1 61 (take_c b1 3 [7, 0, 0] 8) Tryd.func16 rfl (by kernel_rfl) (Args.two .t (.ci (by kernel_rfl)))) r1 r1
     (cF rfl (o_move .t (by rfl)) r1 trivial
     (cF rfl (o_extract .t rfl) r1 trivial
     (cF rfl (o_extract .t rfl) r1 trivial
     (cF rfl (o_assign .t (by rfl)) r1 trivial
     (cF rfl (o_assign .t (by rfl)) r1 trivial
     Chain.nil)))))))
     (by kernel_rfl) (by rw [hB]; kernel_rfl) ?_
   clear hS; intro a w F hS
   obtain ⟨F, hS⟩ := hS.norm [(0, _), (1, _), (2, _), (3, _), (4, _), (5, _)] [(0, _), (9, _), (61, _)] r6 r3
   rw [show takeI 3 [7, 0, 0] 8 = ([7, 8, 0], 1, 0) from by decide +kernel] at hS
   try dsimp only at hS
   refine then_n ?_
   refine wp_seq ?_
   refine region_seq hS (by kernel_rfl)
     (cF rfl (o_move .t (by rfl)) r1 trivial
     (cF rfl (o_callG1 61 (take_c b1 3 [7, 8, 0] 9) Tryd.func16 rfl (by kernel_rfl) (Args.two .t (.ci (by kernel_rfl)))) r1 r1
     (cF rfl (o_move .t (by rfl)) r1 trivial
     (cF rfl (o_extract .t rfl) r1 trivial
     (cF rfl (o_extract .t rfl) r1 trivial
     (cF rfl (o_assign .t (by rfl)) r1 trivial
     (cF rfl (o_assign .t (by rfl)) r1 trivial
     Chain.nil)))))))
     (by kernel_rfl) (by rw [hB]; kernel_rfl) ?_
   clear hS; intro a w F hS
   obtain ⟨F, hS⟩ := hS.norm [(0, _), (1, _), (2, _), (3, _), (4, _), (5, _), (6, _), (7, _)] [(0, _), (9, _), (61, _)] r8 r3
   rw [show takeI 3 [7, 8, 0] 9 = ([7, 8, 9], 2, 0) from by decide +kernel] at hS
   try dsimp only at hS
   refine then_n ?_
   refine wp_seq ?_
   refine region_seq hS (by kernel_rfl)
     (cF rfl (o_move .t (by rfl)) r1 trivial
     (cF rfl (o_callG1 61 (take_c b1 3 [7, 8, 9] 10) Tryd.func16 rfl (by kernel_rfl) (Args.two .t (.ci (by kernel_rfl)))) r1 r1
     (cF rfl (o_move .t (by rfl)) r1 trivial
     (cF rfl (o_extract .t rfl) r1 trivial
     (cF rfl (o_extract .t rfl) r1 trivial
     (cF rfl (o_assign .t (by rfl)) r1 trivial
     (cF rfl (o_assign .t (by rfl)) r1 trivial
     Chain.nil)))))))
     (by kernel_rfl) (by rw [hB]; kernel_rfl) ?_
   clear hS; intro a w F hS
   obtain ⟨F, hS⟩ := hS.norm [(0, _), (1, _), (2, _), (3, _), (4, _), (5, _), (6, _), (7, _), (9, _)] [(0, _), (9, _), (61, _)] ⟨rfl, rfl, rfl, rfl, rfl, rfl, rfl, rfl, rfl, trivial⟩ r3
   rw [show takeI 3 [7, 8, 9] 10 = ([7, 8, 9], 0, 2) from by decide +kernel] at hS
   try dsimp only at hS
   refine then_n ?_
   refine wp_seq ?_
   refine region_seq hS (by kernel_rfl)
     (cF rfl (o_move .t (by rfl)) r1 trivial
     (cF rfl (o_callG1 61 (take_c b1 3 [7, 8, 9] 9) Tryd.func16 rfl (by kernel_rfl) (Args.two .t (.ci (by kernel_rfl)))) r1 r1
     (cF rfl (o_move .t (by rfl)) r1 trivial
     (cF rfl (o_extract .t rfl) r1 trivial
     (cF rfl (o_extract .t rfl) r1 trivial
     (cF rfl (o_assign .t (by rfl)) r1 trivial
     (cF rfl (o_assign .t (by rfl)) r1 trivial
     Chain.nil)))))))
     (by kernel_rfl) (by rw [hB]; kernel_rfl) ?_
   clear hS; intro a w F hS
   obtain ⟨F, hS⟩ := hS.norm [(0, _), (1, _), (2, _), (3, _), (4, _), (5, _), (6, _), (7, _), (9, _), (11, _)] [(0, _), (9, _), (61, _)] ⟨rfl, rfl, rfl, rfl, rfl, rfl, rfl, rfl, rfl, rfl, trivial⟩ r3
   rw [show takeI 3 [7, 8, 9] 9 = ([7, 8, 9], 0, 4) from by decide +kernel] at hS
   try dsimp only at hS
   refine then_n ?_
   refine wp_seq ?_
   refine region_seq hS (by kernel_rfl)
     (cF rfl (o_move .t (by rfl)) r1 trivial
     (cF rfl (o_callG1 61 (take_c b1 3 [7, 8, 9] 0) Tryd.func16 rfl (by kernel_rfl) (Args.two .t (.ci (by kernel_rfl)))) r1 r1
     (cF rfl (o_move .t (by rfl)) r1 trivial
     (cF rfl (o_extract .t rfl) r1 trivial
     (cF rfl (o_extract .t rfl) r1 trivial
     (cF rfl (o_assign .t (by rfl)) r1 trivial
     (cF rfl (o_assign .t (by rfl)) r1 trivial
     Chain.nil)))))))
     (by kernel_rfl) (by rw [hB]; kernel_rfl) ?_
   clear hS; intro a w F hS
   obtain ⟨F, hS⟩ := hS.norm [(0, _), (1, _), (2, _), (3, _), (4, _), (5, _), (6, _), (7, _), (9, _), (11, _), (13, _)] [(0, _), (9, _), (61, _)] ⟨rfl, rfl, rfl, rfl, rfl, rfl, rfl, rfl, rfl, rfl, rfl, trivial⟩ r3
   rw [show takeI 3 [7, 8, 9] 0 = ([7, 8, 9], 0, 1) from by decide +kernel] at hS
   try dsimp only at hS
   refine then_n ?_
   refine wp_seq ?_
   refine region_seq hS (by kernel_rfl)
     (cF rfl (o_move .t (by rfl)) r1 trivial
     (cF rfl (o_callG1 61 (sfree_c b1 3 [7, 8, 9] 8) Tryd.func14 rfl (by kernel_rfl) (Args.two .t (.ci (by kernel_rfl)))) r1 r1
     (cF rfl (o_move .t (by rfl)) r1 trivial
     (cF rfl (o_callG1 61 (sfree_c b1 3 (freeI [7, 8, 9] 8).1 8) Tryd.func14 rfl (by kernel_rfl) (Args.two .t (.ci (by kernel_rfl)))) r1 r1
     (cF rfl (o_assign .t (by rfl)) r1 trivial
     (cF rfl (o_assign .t (by rfl)) r1 trivial
     Chain.nil))))))
     (by kernel_rfl) (by rw [hB]; kernel_rfl) ?_
   clear hS; intro a w F hS
   obtain ⟨F, hS⟩ := hS.norm [(0, _), (1, _), (2, _), (3, _), (4, _), (5, _), (6, _), (7, _), (9, _), (11, _), (13, _), (14, _), (15, _)] [(0, _), (9, _), (61, _)] ⟨rfl, rfl, rfl, rfl, rfl, rfl, rfl, rfl, rfl, rfl, rfl, rfl, rfl, trivial⟩ r3
   rw [show freeI [7, 8, 9] 8 = ([7, 0, 9], 0) from by decide +kernel] at hS
   try dsimp only at hS
   rw [show freeI [7, 0, 9] 8 = ([7, 0, 9], 3) from by decide +kernel] at hS
   try dsimp only at hS
   refine then_n ?_
   refine wp_seq ?_
   refine region_seq hS (by kernel_rfl)
     (cF rfl (o_move .t (by rfl)) r1 trivial
     (cF rfl (o_callG1 61 (take_c b1 3 [7, 0, 9] 5) Tryd.func16 rfl (by kernel_rfl) (Args.two .t (.ci (by kernel_rfl)))) r1 r1
     (cF rfl (o_move .t (by rfl)) r1 trivial
     (cF rfl (o_extract .t rfl) r1 trivial
     (cF rfl (o_extract .t rfl) r1 trivial
     (cF rfl (o_assign .t (by rfl)) r1 trivial
     (cF rfl (o_assign .t (by rfl)) r1 trivial
     Chain.nil)))))))
     (by kernel_rfl) (by rw [hB]; kernel_rfl) ?_
   clear hS; intro a w F hS
   obtain ⟨F, hS⟩ := hS.norm [(0, _), (1, _), (2, _), (3, _), (4, _), (5, _), (6, _), (7, _), (9, _), (11, _), (13, _), (14, _), (15, _), (16, _), (17, _)] [(0, _), (9, _), (61, _)] ⟨rfl, rfl, rfl, rfl, rfl, rfl, rfl, rfl, rfl, rfl, rfl, rfl, rfl, rfl, rfl, trivial⟩ r3
   rw [show takeI 3 [7, 0, 9] 5 = ([7, 5, 9], 1, 0) from by decide +kernel] at hS
   try dsimp only at hS
   refine then_n ?_
   refine wp_seq ?_
   refine region_seq hS (by kernel_rfl)
     (cF rfl (o_move .t (by rfl)) r1 trivial
     (cF rfl (o_callG1 61 (slot_c b1 3 [7, 5, 9] 5) Tryd.func17 rfl (by kernel_rfl) (Args.two .t (.ci (by kernel_rfl)))) r1 r1
     (cF rfl (o_move .t (by rfl)) r1 trivial
     (cF rfl (o_extract .t rfl) r1 trivial
     (cF rfl (o_extract .t rfl) r1 trivial
     (cF rfl (o_assign .t (by rfl)) r1 trivial
     (cF rfl (o_assign .t (by rfl)) r1 trivial
     Chain.nil)))))))
     (by kernel_rfl) (by rw [hB]; kernel_rfl) ?_
   clear hS; intro a w F hS
   obtain ⟨F, hS⟩ := hS.norm [(0, _), (1, _), (2, _), (3, _), (4, _), (5, _), (6, _), (7, _), (9, _), (11, _), (13, _), (14, _), (15, _), (16, _), (17, _), (18, _), (19, _)] [(0, _), (9, _), (61, _)] ⟨rfl, rfl, rfl, rfl, rfl, rfl, rfl, rfl, rfl, rfl, rfl, rfl, rfl, rfl, rfl, rfl, rfl, trivial⟩ r3
   refine then_n ?_
   refine wp_seq ?_
   refine region_seq hS (by kernel_rfl)
     (cF rfl (o_move .t (by rfl)) r1 trivial
     (cF rfl (o_callG1 61 (sid_c b1 3 [7, 5, 9] 2) Tryd.func18 rfl (by kernel_rfl) (Args.two .t (.ci (by kernel_rfl)))) r1 r1
     (cF rfl (o_move .t (by rfl)) r1 trivial
     (cF rfl (o_extract .t rfl) r1 trivial
     (cF rfl (o_extract .t rfl) r1 trivial
     (cF rfl (o_assign .t (by rfl)) r1 trivial
     (cF rfl (o_assign .t (by rfl)) r1 trivial
     Chain.nil)))))))
     (by kernel_rfl) (by rw [hB]; kernel_rfl) ?_
   clear hS; intro a w F hS
   obtain ⟨F, hS⟩ := hS.norm [(0, _), (1, _), (2, _), (3, _), (4, _), (5, _), (6, _), (7, _), (9, _), (11, _), (13, _), (14, _), (15, _), (16, _), (17, _), (18, _), (19, _), (20, _), (21, _)] [(0, _), (9, _), (61, _)] ⟨rfl, rfl, rfl, rfl, rfl, rfl, rfl, rfl, rfl, rfl, rfl, rfl, rfl, rfl, rfl, rfl, rfl, rfl, rfl, trivial⟩ r3
   refine then_n ?_
   refine wp_seq ?_
   refine region_seq hS (by kernel_rfl)
     (cF rfl (o_move .t (by rfl)) r1 trivial
     (cF rfl (o_callG1 61 (sid_c b1 3 [7, 5, 9] 3) Tryd.func18 rfl (by kernel_rfl) (Args.two .t (.ci (by kernel_rfl)))) r1 r1
     (cF rfl (o_move .t (by rfl)) r1 trivial
     (cF rfl (o_extract .t rfl) r1 trivial
     (cF rfl (o_extract .t rfl) r1 trivial
     (cF rfl (o_assign .t (by rfl)) r1 trivial
     (cF rfl (o_assign .t (by rfl)) r1 trivial
     Chain.nil)))))))
     (by kernel_rfl) (by rw [hB]; kernel_rfl) ?_
   clear hS; intro a w F hS
   obtain ⟨F, hS⟩ := hS.norm [(0, _), (1, _), (2, _), (3, _), (4, _), (5, _), (6, _), (7, _), (9, _), (11, _), (13, _), (14, _), (15, _), (16, _), (17, _), (18, _), (19, _), (20, _), (21, _), (23, _)] [(0, _), (9, _), (61, _)] ⟨rfl, rfl, rfl, rfl, rfl, rfl, rfl, rfl, rfl, rfl, rfl, rfl, rfl, rfl, rfl, rfl, rfl, rfl, rfl, rfl, trivial⟩ r3
   refine then_n ?_
   refine wp_seq ?_
   refine region_seq hS (by kernel_rfl)
     (cF rfl (o_move .t (by rfl)) r1 trivial
     (cF rfl (o_callG1 61 (slot_c b1 3 [7, 5, 9] 8) Tryd.func17 rfl (by kernel_rfl) (Args.two .t (.ci (by kernel_rfl)))) r1 r1
     (cF rfl (o_move .t (by rfl)) r1 trivial
     (cF rfl (o_extract .t rfl) r1 trivial
     (cF rfl (o_extract .t rfl) r1 trivial
     (cF rfl (o_assign .t (by rfl)) r1 trivial
     (cF rfl (o_assign .t (by rfl)) r1 trivial
     Chain.nil)))))))
     (by kernel_rfl) (by rw [hB]; kernel_rfl) ?_
   clear hS; intro a w F hS
   obtain ⟨F, hS⟩ := hS.norm [(0, _), (1, _), (2, _), (3, _), (4, _), (5, _), (6, _), (7, _), (9, _), (11, _), (13, _), (14, _), (15, _), (16, _), (17, _), (18, _), (19, _), (20, _), (21, _), (23, _), (25, _)] [(0, _), (9, _), (61, _)] ⟨rfl, rfl, rfl, rfl, rfl, rfl, rfl, rfl, rfl, rfl, rfl, rfl, rfl, rfl, rfl, rfl, rfl, rfl, rfl, rfl, rfl, trivial⟩ r3
   refine then_n ?_
   refine wp_seq ?_
   refine region_seq hS (by kernel_rfl)
     (cF rfl (o_assign (.c rfl) (by rfl)) trivial trivial
     Chain.nil)
     (by kernel_rfl) (by rw [hB]; kernel_rfl) ?_
   clear hS; intro a w F hS
   obtain ⟨F, hS⟩ := hS.norm [(0, _), (1, _), (2, _), (3, _), (4, _), (5, _), (6, _), (7, _), (9, _), (11, _), (13, _), (14, _), (15, _), (16, _), (17, _), (18, _), (19, _), (20, _), (21, _), (23, _), (25, _), (26, _)] [(0, _), (9, _), (61, _)] ⟨rfl, rfl, rfl, rfl, rfl, rfl, rfl, rfl, rfl, rfl, rfl, rfl, rfl, rfl, rfl, rfl, rfl, rfl, rfl, rfl, rfl, rfl, trivial⟩ r3
   refine then_n ?_
   refine wp_seq ?_
   refine region_seq hS (by kernel_rfl)
     (cF rfl (o_move .t (by rfl)) r1 trivial
     (cF rfl (o_callP (take_nil 1 (by decide)) Tryd.func16 rfl (by kernel_rfl) (Args.two .t (.ci (by kernel_rfl)))) r1 trivial
     (cF rfl (o_move .t (by rfl)) r1 trivial
     (cF rfl (o_extract .t rfl) r1 trivial
     (cF rfl (o_extract .t rfl) r1 trivial
     (cF rfl (o_assign .t (by rfl)) r1 trivial
     (cF rfl (o_assign .t (by rfl)) r1 trivial
     Chain.nil)))))))
     (by kernel_rfl) (by rw [hB]; kernel_rfl) ?_
   clear hS; intro a w F hS
   obtain ⟨F, hS⟩ := hS.norm [(0, _), (1, _), (2, _), (3, _), (4, _), (5, _), (6, _), (7, _), (9, _), (11, _), (13, _), (14, _), (15, _), (16, _), (17, _), (18, _), (19, _), (20, _), (21, _), (23, _), (25, _), (26, _), (28, _)] [(0, _), (9, _), (61, _)] ⟨rfl, rfl, rfl, rfl, rfl, rfl, rfl, rfl, rfl, rfl, rfl, rfl, rfl, rfl, rfl, rfl, rfl, rfl, rfl, rfl, rfl, rfl, rfl, trivial⟩ r3
   refine then_n ?_
   refine wp_seq ?_
   refine region_seqN hS (by kernel_rfl)
     (cG rfl (o_move .t (by rfl)) r1 trivial
     (cG rfl (o_eql .t (.ci (by kernel_rfl))) r1 trivial
     (cG rfl (o_move .t (by rfl)) r1 trivial
     (ChainN.cons (Cert.cond rfl rfl (fun h => o_move .t (by rfl))) r2 trivial
     (ChainN.cons (Cert.cond rfl rfl (fun h => o_eql (.w h) (.ci (by kernel_rfl)))) r2 trivial
     (cG rfl (o_and2 .t .t) r2 trivial
     (cG rfl (o_move .t (by rfl)) r1 trivial
     (ChainN.cons (Cert.cond rfl rfl (fun h => o_move .t (by rfl))) r2 trivial
     (ChainN.cons (Cert.cond rfl rfl (fun h => o_eql (.w h) (.ci (by kernel_rfl)))) r2 trivial
     (cG rfl (o_and2 .t .t) r2 trivial
     (cG rfl (o_move .t (by rfl)) r1 trivial
     (ChainN.cons (Cert.cond rfl rfl (fun h => o_move .t (by rfl))) r2 trivial
     (ChainN.cons (Cert.cond rfl rfl (fun h => o_eql (.w h) (.ci (by kernel_rfl)))) r2 trivial
     (cG rfl (o_and2 .t .t) r2 trivial
     (cG rfl (o_move .t (by rfl)) r1 trivial
     (ChainN.cons (Cert.cond rfl rfl (fun h => o_move .t (by rfl))) r2 trivial
     (ChainN.cons (Cert.cond rfl rfl (fun h => o_eql (.w h) (.ci (by kernel_rfl)))) r2 trivial
     (cG rfl (o_and2 .t .t) r2 trivial
     (cG rfl (o_move .t (by rfl)) r1 trivial
     (ChainN.cons (Cert.cond rfl rfl (fun h => o_move .t (by rfl))) r2 trivial
     (ChainN.cons (Cert.cond rfl rfl (fun h => o_eql (.w h) (.ci (by kernel_rfl)))) r2 trivial
     (cG rfl (o_and2 .t .t) r2 trivial
     (cG rfl (o_move .t (by rfl)) r1 trivial
     (ChainN.cons (Cert.cond rfl rfl (fun h => o_move .t (by rfl))) r2 trivial
     (ChainN.norm [(0, _), (1, _), (11, _), (13, _), (14, _), (15, _), (16, _), (17, _), (18, _), (19, _), (20, _), (21, _), (23, _), (25, _), (26, _), (28, _), (118, _), (119, _)] [(0, _), (9, _), (61, _)] ⟨rfl, rfl, rfl, rfl, rfl, rfl, rfl, rfl, rfl, rfl, rfl, rfl, rfl, rfl, rfl, rfl, rfl, rfl, trivial⟩ r3
     (ChainN.cons (Cert.cond rfl rfl (fun h => o_eql (.w h) (.ci (by kernel_rfl)))) r2 trivial
     (cG rfl (o_and2 .t .t) r2 trivial
     (cG rfl (o_move .t (by rfl)) r1 trivial
     (ChainN.cons (Cert.cond rfl rfl (fun h => o_move .t (by rfl))) r2 trivial
     (ChainN.cons (Cert.cond rfl rfl (fun h => o_eql (.w h) (.ci (by kernel_rfl)))) r2 trivial
     (cG rfl (o_and2 .t .t) r2 trivial
     (cG rfl (o_move .t (by rfl)) r1 trivial
     (ChainN.cons (Cert.cond rfl rfl (fun h => o_move .t (by rfl))) r2 trivial
     (ChainN.cons (Cert.cond rfl rfl (fun h => o_eql (.w h) (.ci (by kernel_rfl)))) r2 trivial
     (cG rfl (o_and2 .t .t) r2 trivial
     (cG rfl (o_move .t (by rfl)) r1 trivial
     (ChainN.cons (Cert.cond rfl rfl (fun h => o_move .t (by rfl))) r2 trivial
     (ChainN.cons (Cert.cond rfl rfl (fun h => o_eql (.w h) (.ci (by kernel_rfl)))) r2 trivial
     (cG rfl (o_and2 .t .t) r2 trivial
     (cG rfl (o_move .t (by rfl)) r1 trivial
     (ChainN.cons (Cert.cond rfl rfl (fun h => o_move .t (by rfl))) r2 trivial
     (ChainN.cons (Cert.cond rfl rfl (fun h => o_eql (.w h) (.ci (by kernel_rfl)))) r2 trivial
     (cG rfl (o_and2 .t .t) r2 trivial
     (cG rfl (o_move .t (by rfl)) r1 trivial
     (ChainN.cons (Cert.cond rfl rfl (fun h => o_move .t (by rfl))) r2 trivial
     (ChainN.cons (Cert.cond rfl rfl (fun h => o_eql (.w h) (.ci (by kernel_rfl)))) r2 trivial
     (cG rfl (o_and2 .t .t) r2 trivial
     (cG rfl (o_move .t (by rfl)) r1 trivial
     (ChainN.cons (Cert.cond rfl rfl (fun h => o_move .t (by rfl))) r2 trivial
     (ChainN.norm [(0, _), (1, _), (18, _), (19, _), (20, _), (21, _), (23, _), (25, _), (26, _), (28, _), (142, _), (143, _)] [(0, _), (9, _), (61, _)] ⟨rfl, rfl, rfl, rfl, rfl, rfl, rfl, rfl, rfl, rfl, rfl, rfl, trivial⟩ r3
     (ChainN.cons (Cert.cond rfl rfl (fun h => o_eql (.w h) (.ci (by kernel_rfl)))) r2 trivial
     (cG rfl (o_and2 .t .t) r2 trivial
     (cG rfl (o_move .t (by rfl)) r1 trivial
     (ChainN.cons (Cert.cond rfl rfl (fun h => o_move .t (by rfl))) r2 trivial
     (ChainN.cons (Cert.cond rfl rfl (fun h => o_eql (.w h) (.ci (by kernel_rfl)))) r2 trivial
     (cG rfl (o_and2 .t .t) r2 trivial
     (cG rfl (o_move .t (by rfl)) r1 trivial
     (ChainN.cons (Cert.cond rfl rfl (fun h => o_move .t (by rfl))) r2 trivial
     (cG rfl (o_and2 .t .t) r2 trivial
     (cG rfl (o_move .t (by rfl)) r1 trivial
     (ChainN.cons (Cert.cond rfl rfl (fun h => o_move .t (by rfl))) r2 trivial
     (ChainN.cons (Cert.cond rfl rfl (fun h => o_eql (.w h) (.ci (by kernel_rfl)))) r2 trivial
     (cG rfl (o_and2 .t .t) r2 trivial
     (cG rfl (o_move .t (by rfl)) r1 trivial
     (ChainN.cons (Cert.cond rfl rfl (fun h => o_move .t (by rfl))) r2 trivial
     (cG rfl (o_and2 .t .t) r2 trivial
     (cG rfl (o_move .t (by rfl)) r1 trivial
     (ChainN.cons (Cert.cond rfl rfl (fun h => o_move .t (by rfl))) r2 trivial
     (ChainN.cons (Cert.cond rfl rfl (fun h => o_not (.w h))) r2 trivial
     (cG rfl (o_and2 .t .t) r2 trivial
     (cG rfl (o_move .t (by rfl)) r1 trivial
     (ChainN.cons (Cert.cond rfl rfl (fun h => o_move .t (by rfl))) r2 trivial
     (ChainN.cons (Cert.cond rfl rfl (fun h => o_not (.w h))) r2 trivial
     (cG rfl (o_and2 .t .t) r2 trivial
     (ChainN.norm [(0, _), (1, _), (26, _), (28, _), (167, _)] [(0, _), (9, _), (61, _)] r5 r3
     (cG rfl (o_move .t (by rfl)) r1 trivial
     (ChainN.cons (Cert.cond rfl rfl (fun h => o_move .t (by rfl))) r2 trivial
     (ChainN.cons (Cert.condR rfl rfl (by rfl) (fun h => o_callG1 61 (slen_c b1 3 [7, 5, 9]) Tryd.func20 rfl (by kernel_rfl) (Args.one (.w h)))) r2 r1
     (ChainN.cons (Cert.cond rfl rfl (fun h => o_eql (.w h) (.ci (by kernel_rfl)))) r2 trivial
     (cG rfl (o_and2 .t .t) r2 trivial
     (cG rfl (o_move .t (by rfl)) r1 trivial
     (ChainN.cons (Cert.cond rfl rfl (fun h => o_move .t (by rfl))) r2 trivial
     (ChainN.cons (Cert.condR rfl rfl (by rfl) (fun h => o_callG1 61 (sroom_c b1 3 [7, 5, 9]) Tryd.func21 rfl (by kernel_rfl) (Args.one (.w h)))) r2 r1
     (ChainN.cons (Cert.cond rfl rfl (fun h => o_eql (.w h) (.ci (by kernel_rfl)))) r2 trivial
     (cG rfl (o_and2 .t .t) r2 trivial
     (cG rfl (o_move .t (by rfl)) r1 trivial
     (ChainN.cons (Cert.cond rfl rfl (fun h => o_move .t (by rfl))) r2 trivial
     (ChainN.cons (Cert.condR rfl rfl (by rfl) (fun h => o_callG1 61 (slist_c b1 3 [7, 5, 9]) Tryd.func24 rfl (by kernel_rfl) (Args.one (.w h)))) r2 r1
     (ChainN.cons (Cert.cond rfl rfl (fun h => o_build (r := [(0, _), (1, _)]) (zs := [.int .i64 0, .int .i64 0]) (pl := [(0, 1), (1, 1)]) (by kernel_rfl) (by kernel_rfl) (.one rfl (.ci (by kernel_rfl)) one_int (by kernel_rfl) (.one rfl (.ci (by kernel_rfl)) one_int (by kernel_rfl) .nil)) (by rfl))) r1 trivial
     (ChainN.cons (Cert.cond rfl rfl (fun h => o_build (r := [(0, _), (1, _)]) (zs := [.int .i64 0, .int .i64 0]) (pl := [(0, 1), (1, 1)]) (by kernel_rfl) (by kernel_rfl) (.one rfl (.ci (by kernel_rfl)) one_int (by kernel_rfl) (.one rfl (.ci (by kernel_rfl)) one_int (by kernel_rfl) .nil)) (by rfl))) r1 trivial
     (ChainN.cons (Cert.cond rfl rfl (fun h => o_build (r := [(0, _), (1, _)]) (zs := [.int .i64 0, .int .i64 0]) (pl := [(0, 1), (1, 1)]) (by kernel_rfl) (by kernel_rfl) (.one rfl (.ci (by kernel_rfl)) one_int (by kernel_rfl) (.one rfl (.ci (by kernel_rfl)) one_int (by kernel_rfl) .nil)) (by rfl))) r1 trivial
     (ChainN.cons (Cert.cond rfl rfl (fun h => o_buildSliceE (sz := 2) (zs := [.int .i64 0, .int .i64 0]) (r := [(0, .tmp 181), (1, .tmp 182), (2, .tmp 183)]) (l := [_, _, _, _, _, _]) Tryd.underlying26 (by kernel_rfl) (by kernel_rfl) (by kernel_rfl) (by kernel_rfl) rfl rfl (.agg rfl (.w h) (by kernel_rfl) (by kernel_rfl) (.agg rfl (.w h) (by kernel_rfl) (by kernel_rfl) (.agg rfl (.w h) (by kernel_rfl) (by kernel_rfl) .nil))) rfl)) r4 trivial
     (ChainN.cons (Cert.cond rfl rfl (fun h => o_callP (same06_c (pairsF 0 [7, 5, 9]) [⟨0, 7⟩, ⟨1, 5⟩, ⟨2, 9⟩]) Tryd.func23 rfl (by kernel_rfl) (Args.two (.w h) (.conv (.w h) (Ent.arrSl (R := rPair) (l := [⟨0, 7⟩, ⟨1, 5⟩, ⟨2, 9⟩]) rfl))))) r3 trivial
     (cG rfl (o_and2 .t .t) r2 trivial
     (cG rfl (o_move .t (by rfl)) r1 trivial
     (ChainN.cons (Cert.cond rfl rfl (fun h => o_move .t (by rfl))) r2 trivial
     (ChainN.cons (Cert.cond rfl rfl (fun h => o_eql (.w h) (.ci (by kernel_rfl)))) r2 trivial
     (cG rfl (o_and2 .t .t) r2 trivial
     (cG rfl (o_move .t (by rfl)) r1 trivial
     (ChainN.norm [(0, _), (26, _), (191, _)] [(0, _), (9, _), (61, _)] r3 r3
     (ChainN.cons (Cert.cond rfl rfl (fun h => o_move .t (by rfl))) r2 trivial
     (ChainN.cons (Cert.cond rfl rfl (fun h => o_callP (sfree_nil 1) Tryd.func14 rfl (by kernel_rfl) (Args.two (.w h) (.ci (by kernel_rfl))))) r2 trivial
     (ChainN.cons (Cert.cond rfl rfl (fun h => o_eql (.w h) (.ci (by kernel_rfl)))) r2 trivial
     (cG rfl (o_and2 .t .t) r2 trivial
     (cG rfl (o_move .t (by rfl)) r1 trivial
     (ChainN.cons (Cert.cond rfl rfl (fun h => o_move .t (by rfl))) r2 trivial
     (ChainN.cons (Cert.cond rfl rfl (fun h => o_callP (slen_nil) Tryd.func20 rfl (by kernel_rfl) (Args.one (.w h)))) r2 trivial
     (ChainN.cons (Cert.cond rfl rfl (fun h => o_eql (.w h) (.ci (by kernel_rfl)))) r2 trivial
     (cG rfl (o_and2 .t .t) r2 trivial
     (cG rfl (o_assign .t (by rfl)) r1 trivial
     ChainN.nil))))))))))))))))))))))))))))))))))))))))))))))))))))))))))))))))))))))))))))))))))))))))))))))))))))))))))))))
     (by kernel_rfl) (by rw [hB]; kernel_rfl) ?_
   clear hS; intro a w F hS
   obtain ⟨F, hS⟩ := hS.norm [(0, _)] [(0, _), (9, _), (61, _)] r1 r3
   try dsimp only [List.map, stCells, List.length_cons, List.length_nil, Nat.reduceAdd, List.drop_succ_cons, List.drop_zero, List.drop_nil, List.take_succ_cons, List.take_zero, List.take_nil, List.cons_append, List.nil_append, zCF] at hS
   refine then_n ?_
   refine wp_ret ?_
   refine ret_P hfr hS rfl (.tmp rfl .nil) (.one (.bool (by decide +kernel)))

end Go.Proofs.YtdfpljecogijaaaDoor
