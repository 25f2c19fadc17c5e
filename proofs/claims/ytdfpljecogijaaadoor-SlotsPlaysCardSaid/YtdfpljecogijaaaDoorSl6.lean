/- SlotsDense. No condition beyond those that each theorem says. -/
import Derived.Test.YtdfpljecogijaaaDoorSl5
namespace Go.Proofs.YtdfpljecogijaaaDoor
open Go Go.Gm
set_option linter.unusedVariables false
set_option linter.unusedSimpArgs false
set_option maxHeartbeats 4000000
set_option maxRecDepth 8000


theorem sdense_c (n : Int) (l : List Int) : FnPg Tryd.prog tabP tabV 4 [.int .i64 n, .sl rInt l] (.bool true) := by
  refine FnPg.mk Tryd.func4 rfl Tryd.ntmps4 rfl ?_
  intro B a w F hB hfr hS
  have hll := Sat.lenSl hS (i := 1) rfl
  refine wp_seq ?_
  refine region_seq hS (by kernel_rfl)
    (cF rfl (o_assign .cb (by rfl)) trivial trivial
    Chain.nil)
    (by kernel_rfl) (by rw [hB]; kernel_rfl) ?_
  clear hS; intro a w F hS
  obtain ⟨F, hS⟩ := hS.norm [(0, _), (1, _), (4, _)] [(0, _), (9, _)] r3 r2
  try dsimp only [rPair] at hS
  refine then_n ?_
  refine wp_seq ?_
  refine wp_seq ?_
  refine region_seq hS (by kernel_rfl)
    (cF rfl (o_callPg 9 (livesS_c) Tryd.func11 rfl (by kernel_rfl) Args.nil) trivial r1
    (cF rfl (o_not .t) r1 trivial
    Chain.nil))
    (by kernel_rfl) (by rw [hB]; kernel_rfl) ?_
  clear hS; intro a w F hS
  obtain ⟨F, hS⟩ := hS.norm [(0, _), (1, _), (4, _), (22, _)] [(0, _), (9, _)] r4 r2
  try dsimp only [rPair] at hS
  refine then_n ?_
  refine cond_b hS rfl (fun hc0 => ?_) (fun hc0 => ?_)
  ·skip
   simp at hc0
  ·skip
   refine wp_skip ?_
   refine then_n ?_
   refine wp_seq ?_
   replace hS := hS.dupG 9 61 rfl rfl
   refine region_seq hS (by kernel_rfl)
     (cF rfl (o_move .t (by rfl)) r1 trivial
     (cF rfl (o_callNg 61 (snew_c n) Tryd.func10 rfl (by kernel_rfl) (Args.one .t) PV.ptr_one) r1 r1
     (cF rfl (o_assign .t (by rfl)) r1 trivial
     Chain.nil)))
     (by kernel_rfl) (by rw [hB]; kernel_rfl) ?_
   clear hS; intro a w F hS
   replace hS := hS.sub
   obtain ⟨F, hS⟩ := hS.norm [(0, _), (1, _), (4, _), (5, _)] [(0, _), (9, _), (61, _)] r4 r3
   try dsimp only [RS.sub, SF.sub, CF.sub, csub, Anc.sub, List.map, rPair] at hS
   generalize Act.tau a 24 = v24 at hS
   obtain ⟨_, _, _, ho⟩ := hS.obGet 61 rfl
   obtain ⟨b1, rfl⟩ := slotsH_ptr ho
   clear ho
   replace hS := hS.turn 61 rfl (r' := RS.hp (slotsH (.pointer (some ⟨b1, 0, none⟩)) (roomN n) (zerosI (roomN n)))) (fun _ _ _ _ h => h)
   obtain ⟨F, hS⟩ := hS.norm [(0, _), (1, _), (4, _), (5, _)] [(0, _), (9, _), (61, _)] r4 r3
   refine then_n ?_
   refine wp_seq ?_
   refine wp_seq ?_
   refine region_seq hS (by kernel_rfl)
     (cF rfl (o_move .t (by rfl)) r1 trivial
     (cF rfl (o_nil_eql _ Tryd.underlying23 rfl .t) r1 trivial
     (cF rfl (o_move .t (by rfl)) r1 trivial
     (Chain.cons (Cert.cond rfl rfl (fun h => o_move .t (by rfl))) r2 trivial
     (Chain.cons (Cert.cond rfl rfl (fun h => o_lss (.w h) (.ci (by kernel_rfl)))) r2 trivial
     (cF rfl (o_or2 .t .t) r2 trivial
     (cF rfl (o_move .t (by rfl)) r1 trivial
     (Chain.cons (Cert.cond rfl rfl (fun h => o_move .t (by rfl))) r2 trivial
     (Chain.cons (Cert.cond rfl rfl (fun h => o_gtr (.w h) (.ci (by kernel_rfl)))) r2 trivial
     (cF rfl (o_or2 .t .t) r2 trivial
     (cF rfl (o_move .t (by rfl)) r1 trivial
     (Chain.cons (Cert.cond rfl rfl (fun h => o_move .t (by rfl))) r2 trivial
     (Chain.cons (Cert.cond rfl rfl (fun h => o_len_sl Tryd.underlying22 (.w h))) r2 trivial
     (Chain.cons (Cert.cond rfl rfl (fun h => o_gtr (.w h) (.ci (by kernel_rfl)))) r2 trivial
     (cF rfl (o_or2 .t .t) r2 trivial
     Chain.nil)))))))))))))))
     (by kernel_rfl) (by rw [hB]; kernel_rfl) ?_
   clear hS; intro a w F hS
   obtain ⟨F, hS⟩ := hS.norm [(0, _), (1, _), (4, _), (5, _), (39, _)] [(0, _), (9, _), (61, _)] r5 r3
   try dsimp only [rPair] at hS
   refine then_n ?_
   refine cond_b hS rfl (fun hc1 => ?_) (fun hc1 => ?_)
   ·skip
    refine wp_seq ?_
    refine region_seq hS (by kernel_rfl)
      (cF rfl (o_move .t (by rfl)) r1 trivial
      (cF rfl (o_nil_neq _ Tryd.underlying23 rfl .t) r1 trivial
      (cF rfl (o_assign .t (by rfl)) r1 trivial
      Chain.nil)))
      (by kernel_rfl) (by rw [hB]; kernel_rfl) ?_
    clear hS; intro a w F hS
    obtain ⟨F, hS⟩ := hS.norm [(0, _), (1, _), (4, _), (5, _)] [(0, _), (9, _), (61, _)] r4 r3
    try dsimp only [rPair] at hS
    refine then_n ?_
    refine wp_ret ?_
    refine then_r ?_
    refine ret_P hfr hS rfl (.tmp rfl .nil) (.one (.bool (by first | rfl | (rw [dense_full N hNr.1]; simp))))
   ·skip
    have hnb : 1 ≤ n ∧ n ≤ 100 ∧ l.length ≤ 100 := by simp at hc1; omega
    obtain ⟨N, rfl⟩ := Int.eq_ofNat_of_zero_le (show 0 ≤ n by omega)
    have hNr : N ≤ 100 ∧ roomN (N : Int) = N := ⟨by omega, by unfold roomN; rw [if_neg (by omega), if_neg (by omega)]; rfl⟩
    rw [hNr.2, ← denseI_zero] at hS
    refine wp_skip ?_
    refine then_n ?_
    refine wp_seq ?_
    refine wp_seq ?_
    refine region_seq hS (by kernel_rfl)
      (cF rfl (o_assign (.ci (by kernel_rfl)) (by rfl)) trivial trivial
      Chain.nil)
      (by kernel_rfl) (by rw [hB]; kernel_rfl) ?_
    clear hS; intro a w F hS
    obtain ⟨F, hS⟩ := hS.norm [(0, _), (1, _), (4, _), (5, _), (6, _)] [(0, _), (9, _), (61, _)] r5 r3
    try dsimp only [rPair] at hS
    refine then_n ?_
    refine wp_block ?_
    refine loop_keep (σ := Nat) [0, 1, 4, 5] [0, 9] (fun s => [(6, .pv (.int .i64 (s : Int)))]) (fun s => [(61, RS.hp (slotsH (.pointer (some ⟨b1, 0, none⟩)) N (denseI N s)))]) (fun s => s ≤ N) (fun s => N - s) (0) hS ⟨rfl, rfl, rfl, rfl, rfl, trivial⟩ ⟨rfl, rfl, rfl, trivial⟩ (Nat.zero_le _) ?_
    clear hS; intro i a w F hC hS
    try dsimp only at hC
    obtain ⟨F, hS⟩ := hS.norm [(0, _), (1, _), (4, _), (5, _), (6, _)] [(0, _), (9, _), (61, _)] r5 r3
    try dsimp only at hS
    have hi : i ≤ N := hC
    obtain ⟨es, hk⟩ := slotsH_some (show (slotsH (.pointer (some ⟨b1, 0, none⟩)) N (denseI N i)).p _ _ _ from hS.r 61 _ rfl)
    refine wp_seq ?_
    refine wp_seq ?_
    refine region_seq hS (by kernel_rfl)
      (cF rfl (o_move .t (by rfl)) r1 trivial
      (cF rfl (o_move .t (by rfl)) r1 trivial
      (cF rfl (o_lss .t .t) r2 trivial
      Chain.nil)))
      (by kernel_rfl) (by rw [hB]; kernel_rfl) ?_
    clear hS; intro a w F hS
    obtain ⟨F, hS⟩ := hS.norm [(0, _), (1, _), (4, _), (5, _), (6, _), (42, _), (43, _), (44, _)] [(0, _), (9, _), (61, _)] r8 r3
    try dsimp only [rPair] at hS
    refine then_n ?_
    refine cond_b hS rfl (fun hc2 => ?_) (fun hc2 => ?_)
    ·skip
     have hiN : i < N := by simp at hc2; omega
     refine wp_skip ?_
     refine then_n ?_
     refine wp_seq ?_
     refine wp_block ?_
     refine wp_seq ?_
     refine region_seq hS (by kernel_rfl)
       (cF rfl (o_move .t (by rfl)) r1 trivial
       (cF rfl (o_move .t (by rfl)) r1 trivial
       (cF rfl (o_sub (.ci (by kernel_rfl)) .t) r1 trivial
       (cF rfl (o_callG1 61 (take_c b1 N (denseI N i) (1000 - (i : Int))) Tryd.func16 rfl (by kernel_rfl) (Args.two .t (.conv .t (Ent.int (by rw [wrap_i64 (by omega)]))))) r2 r1
       (cF rfl (o_move .t (by rfl)) r1 trivial
       (cF rfl (o_extract .t rfl) r1 trivial
       (cF rfl (o_extract .t rfl) r1 trivial
       (cF rfl (o_assign .t (by rfl)) r1 trivial
       (cF rfl (o_assign .t (by rfl)) r1 trivial
       Chain.nil)))))))))
       (by kernel_rfl) (by rw [hB]; kernel_rfl) ?_
     clear hS; intro a w F hS
     obtain ⟨F, hS⟩ := hS.norm [(0, _), (1, _), (4, _), (5, _), (6, _), (7, _), (8, _), (42, _), (43, _), (44, _), (47, _), (48, _), (49, _), (50, _), (51, _), (52, _), (53, _)] [(0, _), (9, _), (61, _)] ⟨rfl, rfl, rfl, rfl, rfl, rfl, rfl, rfl, rfl, rfl, rfl, rfl, rfl, rfl, rfl, rfl, rfl, trivial⟩ r3
     try dsimp only [rPair] at hS
     rw [dense_take hk hNr.1 hiN] at hS
     try dsimp only at hS
     refine then_n ?_
     refine wp_seq ?_
     refine region_seq hS (by kernel_rfl)
       (cF rfl (o_move .t (by rfl)) r1 trivial
       (cF rfl (o_move .t (by rfl)) r1 trivial
       (cF rfl (o_neq .t .t) r2 trivial
       (cF rfl (o_move .t (by rfl)) r1 trivial
       (Chain.cons (Cert.cond rfl rfl (fun h => o_move .t (by rfl))) r2 trivial
       (Chain.cons (Cert.cond rfl rfl (fun h => o_neq (.w h) (.ci (by kernel_rfl)))) r2 trivial
       (cF rfl (o_or2 .t .t) r2 trivial
       Chain.nil)))))))
       (by kernel_rfl) (by rw [hB]; kernel_rfl) ?_
     clear hS; intro a w F hS
     obtain ⟨F, hS⟩ := hS.norm [(0, _), (1, _), (4, _), (5, _), (6, _), (7, _), (8, _), (42, _), (43, _), (44, _), (47, _), (48, _), (49, _), (50, _), (51, _), (52, _), (53, _), (54, _), (55, _), (56, _), (57, _), (58, _), (59, _), (60, _)] [(0, _), (9, _), (61, _)] ⟨rfl, rfl, rfl, rfl, rfl, rfl, rfl, rfl, rfl, rfl, rfl, rfl, rfl, rfl, rfl, rfl, rfl, rfl, rfl, rfl, rfl, rfl, rfl, rfl, trivial⟩ r3
     try dsimp only [rPair] at hS
     refine then_n ?_
     refine cond_b hS rfl (fun hc3 => ?_) (fun hc3 => ?_)
     ·skip
      simp at hc3
     ·skip
      refine wp_skip ?_
      refine block_n ?_
      refine then_n ?_
      refine region_seq hS (by kernel_rfl)
        (cF rfl (o_move .t (by rfl)) r1 trivial
        (cF rfl (o_add .t (.ci (by kernel_rfl))) r1 trivial
        (cF rfl (o_assign .t (by rfl)) r1 trivial
        Chain.nil)))
        (by kernel_rfl) (by rw [hB]; kernel_rfl) ?_
      clear hS; intro a w F hS
      obtain ⟨F, hS⟩ := hS.norm [(0, _), (1, _), (4, _), (5, _), (6, _), (7, _), (8, _), (42, _), (43, _), (44, _), (45, _), (46, _), (47, _), (48, _), (49, _), (50, _), (51, _), (52, _), (53, _), (54, _), (55, _), (56, _), (57, _), (58, _), (59, _), (60, _)] [(0, _), (9, _), (61, _)] ⟨rfl, rfl, rfl, rfl, rfl, rfl, rfl, rfl, rfl, rfl, rfl, rfl, rfl, rfl, rfl, rfl, rfl, rfl, rfl, rfl, rfl, rfl, rfl, rfl, rfl, rfl, trivial⟩ r3
      try dsimp only [rPair] at hS
      refine then_n ?_
      replace hS := hS.ent (i := 6) (s' := .pv (.int .i64 ((i + 1 : Nat) : Int))) rfl (.int (wrap_succ (by omega)))
      obtain ⟨F, hS⟩ := hS.norm [(6, _), (0, _), (1, _), (4, _), (5, _)] [(61, _), (0, _), (9, _)] ⟨rfl, rfl, rfl, rfl, rfl, trivial⟩ ⟨rfl, rfl, rfl, trivial⟩
      exact ⟨(i + 1), F, (by show i + 1 ≤ N; omega), hS, (by show N - (i + 1) < N - i; omega)⟩
    ·skip
     have hiN : N = i := by simp at hc2; omega
     subst hiN
     have hfl : (pairsF 0 (denseI N N)).length ≤ 9223372036854775807 := by rw [pairs_len, dense_full N hNr.1]; omega
     refine wp_exit ?_
     refine then_x ?_
     refine then_x ?_
     refine block_x ?_
     refine then_n ?_
     refine wp_seq ?_
     refine wp_seq ?_
     refine region_seq hS (by kernel_rfl)
       (cF rfl (o_move .t (by rfl)) r1 trivial
       (cF rfl (o_len_sl Tryd.underlying22 .t) r1 trivial
       (cF rfl (o_move (.ci (by kernel_rfl)) (by rfl)) trivial trivial
       Chain.nil)))
       (by kernel_rfl) (by rw [hB]; kernel_rfl) ?_
     clear hS; intro a w F hS
     obtain ⟨F, hS⟩ := hS.norm [(0, _), (4, _), (5, _), (61, _), (62, _), (63, _)] [(0, _), (9, _), (61, _)] r6 r3
     try dsimp only [rPair] at hS
     refine then_n ?_
     refine wp_block ?_
     refine loop_keep (σ := (Nat)) [0, 4, 5, 61, 62] [0, 9, 61] (fun s => [(63, .pv (.int .i64 (s : Int)))]) (fun s => []) (fun s => s ≤ l.length ∧ (True)) (fun s => l.length - s) (0) hS ⟨rfl, rfl, rfl, rfl, rfl, rfl, trivial⟩ ⟨rfl, rfl, rfl, trivial⟩ ⟨Nat.zero_le _, trivial⟩ ?_
     clear hS; intro j a w F hC hS
     try dsimp only at hC
     obtain ⟨F, hS⟩ := hS.norm [(0, _), (4, _), (5, _), (61, _), (62, _), (63, _)] [(0, _), (9, _), (61, _)] r6 r3
     try dsimp only at hS
     obtain ⟨hi, hq⟩ := hC
     refine wp_seq ?_
     refine region_seq hS (by kernel_rfl)
       (cF rfl (o_lss .t .t) r2 trivial
       Chain.nil)
       (by kernel_rfl) (by rw [hB]; kernel_rfl) ?_
     clear hS; intro a w F hS
     obtain ⟨F, hS⟩ := hS.norm [(0, _), (4, _), (5, _), (61, _), (62, _), (63, _), (64, _)] [(0, _), (9, _), (61, _)] r7 r3
     try dsimp only [rPair] at hS
     refine then_n ?_
     refine wp_seq ?_
     refine cond_b hS rfl (fun hc4 => ?_) (fun hc4 => ?_)
     ·skip
      have hil : j < l.length := by simp at hc4; omega
      refine wp_skip ?_
      refine then_n ?_
      refine wp_seq ?_
      refine wp_block ?_
      refine wp_seq ?_
      refine region_seq hS (by kernel_rfl)
        (cF rfl (o_indexAddr_sl (sz := 1) (.mk Tryd.underlying22 (by kernel_rfl)) (by intro x; rfl) .t .t (by first | assumption | omega) (by first | assumption | omega)) r2 trivial
        (cF rfl (o_load_ref (ag := false) (sz := 1) .t (by kernel_rfl) (by kernel_rfl) (by kernel_rfl)) r1 trivial
        (cF rfl (o_assign .t (by rfl)) r1 trivial
        Chain.nil)))
        (by kernel_rfl) (by rw [hB]; kernel_rfl) ?_
      clear hS; intro a w F hS
      obtain ⟨F, hS⟩ := hS.norm [(0, _), (4, _), (5, _), (10, _), (61, _), (62, _), (63, _), (64, _), (65, _), (66, _)] [(0, _), (9, _), (61, _)] ⟨rfl, rfl, rfl, rfl, rfl, rfl, rfl, rfl, rfl, rfl, trivial⟩ r3
      try dsimp only [List.map, List.drop_succ_cons, List.drop_zero, List.drop_nil, List.take_succ_cons, List.take_zero, List.take_nil, ldSF, rPair] at hS
      try simp only [Int.toNat_natCast] at hS
      obtain ⟨x, hx⟩ : ∃ x, x = Go.Gm.nth l j := ⟨_, rfl⟩
      rw [← hx] at hS
      refine then_n ?_
      refine wp_seq ?_
      refine region_seq hS (by kernel_rfl)
        (cF rfl (o_move .t (by rfl)) r1 trivial
        (cF rfl (o_move .t (by rfl)) r1 trivial
        (cF rfl (o_callG1 61 (slot_c b1 N (denseI N N) x) Tryd.func17 rfl (by kernel_rfl) (Args.two .t .t)) r2 r1
        (cF rfl (o_move .t (by rfl)) r1 trivial
        (cF rfl (o_extract .t rfl) r1 trivial
        (cF rfl (o_extract .t rfl) r1 trivial
        (cF rfl (o_assign .t (by rfl)) r1 trivial
        (cF rfl (o_assign .t (by rfl)) r1 trivial
        Chain.nil))))))))
        (by kernel_rfl) (by rw [hB]; kernel_rfl) ?_
      clear hS; intro a w F hS
      obtain ⟨F, hS⟩ := hS.norm [(0, _), (4, _), (5, _), (10, _), (11, _), (12, _), (61, _), (62, _), (63, _), (64, _), (65, _), (66, _), (67, _), (68, _), (69, _), (70, _), (71, _), (72, _)] [(0, _), (9, _), (61, _)] ⟨rfl, rfl, rfl, rfl, rfl, rfl, rfl, rfl, rfl, rfl, rfl, rfl, rfl, rfl, rfl, rfl, rfl, rfl, trivial⟩ r3
      try dsimp only [rPair] at hS
      refine then_n ?_
      refine wp_seq ?_
      refine wp_seq ?_
      refine region_seq hS (by kernel_rfl)
        (cF rfl (o_move .t (by rfl)) r1 trivial
        (cF rfl (o_not .t) r1 trivial
        Chain.nil))
        (by kernel_rfl) (by rw [hB]; kernel_rfl) ?_
      clear hS; intro a w F hS
      obtain ⟨F, hS⟩ := hS.norm [(0, _), (4, _), (5, _), (10, _), (11, _), (12, _), (61, _), (62, _), (63, _), (64, _), (65, _), (66, _), (67, _), (68, _), (69, _), (70, _), (71, _), (72, _), (73, _), (74, _)] [(0, _), (9, _), (61, _)] ⟨rfl, rfl, rfl, rfl, rfl, rfl, rfl, rfl, rfl, rfl, rfl, rfl, rfl, rfl, rfl, rfl, rfl, rfl, rfl, rfl, trivial⟩ r3
      try dsimp only [rPair] at hS
      refine then_n ?_
      refine cond_b hS rfl (fun hc5 => ?_) (fun hc5 => ?_)
      ·skip
       have hsl : ¬ 0 ≤ slotF 0 (denseI N N) x := by simpa using hc5
       refine wp_seq ?_
       refine wp_seq ?_
       refine region_seq hS (by kernel_rfl)
         (cF rfl (o_move .t (by rfl)) r1 trivial
         (cF rfl (o_move .t (by rfl)) r1 trivial
         (cF rfl (o_callG1 61 (sfree_c b1 N (denseI N N) x) Tryd.func14 rfl (by kernel_rfl) (Args.two .t .t)) r2 r1
         (cF rfl (o_neq .t (.ci (by kernel_rfl))) r1 trivial
         Chain.nil))))
         (by kernel_rfl) (by rw [hB]; kernel_rfl) ?_
       clear hS; intro a w F hS
       obtain ⟨F, hS⟩ := hS.norm [(0, _), (4, _), (5, _), (10, _), (11, _), (12, _), (61, _), (62, _), (63, _), (64, _), (65, _), (66, _), (67, _), (68, _), (69, _), (70, _), (71, _), (72, _), (73, _), (74, _), (75, _), (76, _), (77, _), (78, _)] [(0, _), (9, _), (61, _)] ⟨rfl, rfl, rfl, rfl, rfl, rfl, rfl, rfl, rfl, rfl, rfl, rfl, rfl, rfl, rfl, rfl, rfl, rfl, rfl, rfl, rfl, rfl, rfl, rfl, trivial⟩ r3
       try dsimp only [rPair] at hS
       rw [free_none hsl] at hS
       try dsimp only at hS
       refine then_n ?_
       refine cond_b hS rfl (fun hc6 => ?_) (fun hc6 => ?_)
       ·skip
        simp at hc6
       ·skip
        refine wp_skip ?_
        refine then_n ?_
        refine wp_exit ?_
        refine then_x ?_
        refine block_x ?_
        refine then_n ?_
        refine region_seq hS (by kernel_rfl)
          (cF rfl (o_add .t (.ci (by kernel_rfl))) r1 trivial
          (cF rfl (o_move .t (by rfl)) r1 trivial
          Chain.nil))
          (by kernel_rfl) (by rw [hB]; kernel_rfl) ?_
        clear hS; intro a w F hS
        obtain ⟨F, hS⟩ := hS.norm [(0, _), (4, _), (5, _), (10, _), (11, _), (12, _), (61, _), (62, _), (63, _), (64, _), (65, _), (66, _), (67, _), (68, _), (69, _), (70, _), (71, _), (72, _), (73, _), (74, _), (75, _), (76, _), (77, _), (78, _), (96, _)] [(0, _), (9, _), (61, _)] ⟨rfl, rfl, rfl, rfl, rfl, rfl, rfl, rfl, rfl, rfl, rfl, rfl, rfl, rfl, rfl, rfl, rfl, rfl, rfl, rfl, rfl, rfl, rfl, rfl, rfl, trivial⟩ r3
        try dsimp only [rPair] at hS
        refine then_n ?_
        replace hS := hS.ent (i := 63) (s' := .pv (.int .i64 ((j + 1 : Nat) : Int))) rfl (.int (wrap_succ (by omega)))
        obtain ⟨F, hS⟩ := hS.norm [(63, _), (0, _), (4, _), (5, _), (61, _), (62, _)] [(0, _), (9, _), (61, _)] ⟨rfl, rfl, rfl, rfl, rfl, rfl, trivial⟩ ⟨rfl, rfl, rfl, trivial⟩
        exact ⟨(j + 1), F, ⟨by omega, trivial⟩, hS, by omega⟩
      ·skip
       have hsl : 0 ≤ slotF 0 (denseI N N) x := by simpa using hc5
       obtain ⟨k, hkf⟩ := Int.eq_ofNat_of_zero_le hsl
       rw [slotR_of hkf] at hS
       refine wp_skip ?_
       refine then_n ?_
       refine wp_seq ?_
       refine wp_seq ?_
       refine region_seq hS (by kernel_rfl)
         (cF rfl (o_move .t (by rfl)) r1 trivial
         (cF rfl (o_move .t (by rfl)) r1 trivial
         (cF rfl (o_callG1 61 (sfree_c b1 N (denseI N N) x) Tryd.func14 rfl (by kernel_rfl) (Args.two .t .t)) r2 r1
         (cF rfl (o_neq .t (.ci (by kernel_rfl))) r1 trivial
         Chain.nil))))
         (by kernel_rfl) (by rw [hB]; kernel_rfl) ?_
       clear hS; intro a w F hS
       obtain ⟨F, hS⟩ := hS.norm [(0, _), (4, _), (5, _), (10, _), (11, _), (12, _), (61, _), (62, _), (63, _), (64, _), (65, _), (66, _), (67, _), (68, _), (69, _), (70, _), (71, _), (72, _), (73, _), (74, _), (79, _), (80, _), (81, _), (82, _)] [(0, _), (9, _), (61, _)] ⟨rfl, rfl, rfl, rfl, rfl, rfl, rfl, rfl, rfl, rfl, rfl, rfl, rfl, rfl, rfl, rfl, rfl, rfl, rfl, rfl, rfl, rfl, rfl, rfl, trivial⟩ r3
       try dsimp only [rPair] at hS
       rw [free_some hkf] at hS
       try dsimp only at hS
       refine then_n ?_
       refine cond_b hS rfl (fun hc7 => ?_) (fun hc7 => ?_)
       ·skip
        simp at hc7
       ·skip
        refine wp_skip ?_
        refine then_n ?_
        refine wp_seq ?_
        refine region_seq hS (by kernel_rfl)
          (cF rfl (o_move .t (by rfl)) r1 trivial
          (cF rfl (o_move .t (by rfl)) r1 trivial
          (cF rfl (o_callG1 61 (take_c b1 N ((denseI N N).set k 0) x) Tryd.func16 rfl (by kernel_rfl) (Args.two .t .t)) r2 r1
          (cF rfl (o_move .t (by rfl)) r1 trivial
          (cF rfl (o_extract .t rfl) r1 trivial
          (cF rfl (o_extract .t rfl) r1 trivial
          (cF rfl (o_assign .t (by rfl)) r1 trivial
          (cF rfl (o_assign .t (by rfl)) r1 trivial
          Chain.nil))))))))
          (by kernel_rfl) (by rw [hB]; kernel_rfl) ?_
        clear hS; intro a w F hS
        obtain ⟨F, hS⟩ := hS.norm [(0, _), (4, _), (5, _), (10, _), (11, _), (12, _), (13, _), (14, _), (61, _), (62, _), (63, _), (64, _), (65, _), (66, _), (67, _), (68, _), (69, _), (70, _), (71, _), (72, _), (73, _), (74, _), (79, _), (80, _), (81, _), (82, _), (83, _), (84, _), (85, _), (86, _), (87, _), (88, _)] [(0, _), (9, _), (61, _)] ⟨rfl, rfl, rfl, rfl, rfl, rfl, rfl, rfl, rfl, rfl, rfl, rfl, rfl, rfl, rfl, rfl, rfl, rfl, rfl, rfl, rfl, rfl, rfl, rfl, rfl, rfl, rfl, rfl, rfl, rfl, rfl, rfl, trivial⟩ r3
        try dsimp only [rPair] at hS
        rw [again hk (dense_full N hNr.1) hkf] at hS
        try dsimp only at hS
        refine then_n ?_
        refine wp_seq ?_
        refine region_seq hS (by kernel_rfl)
          (cF rfl (o_move .t (by rfl)) r1 trivial
          (cF rfl (o_neq .t (.ci (by kernel_rfl))) r1 trivial
          (cF rfl (o_move .t (by rfl)) r1 trivial
          (Chain.cons (Cert.cond rfl rfl (fun h => o_move .t (by rfl))) r2 trivial
          (Chain.cons (Cert.cond rfl rfl (fun h => o_move .t (by rfl))) r2 trivial
          (Chain.cons (Cert.cond rfl rfl (fun h => o_gtr (.w h) (.w h))) r3 trivial
          (cF rfl (o_or2 .t .t) r2 trivial
          Chain.nil)))))))
          (by kernel_rfl) (by rw [hB]; kernel_rfl) ?_
        clear hS; intro a w F hS
        obtain ⟨F, hS⟩ := hS.norm [(0, _), (4, _), (5, _), (10, _), (11, _), (12, _), (13, _), (14, _), (61, _), (62, _), (63, _), (64, _), (65, _), (66, _), (67, _), (68, _), (69, _), (70, _), (71, _), (72, _), (73, _), (74, _), (79, _), (80, _), (81, _), (82, _), (83, _), (84, _), (85, _), (86, _), (87, _), (88, _), (89, _), (90, _), (91, _), (92, _), (93, _), (94, _), (95, _)] [(0, _), (9, _), (61, _)] ⟨rfl, rfl, rfl, rfl, rfl, rfl, rfl, rfl, rfl, rfl, rfl, rfl, rfl, rfl, rfl, rfl, rfl, rfl, rfl, rfl, rfl, rfl, rfl, rfl, rfl, rfl, rfl, rfl, rfl, rfl, rfl, rfl, rfl, rfl, rfl, rfl, rfl, rfl, rfl, trivial⟩ r3
        try dsimp only [rPair] at hS
        refine then_n ?_
        refine cond_b hS rfl (fun hc8 => ?_) (fun hc8 => ?_)
        ·skip
         simp at hc8
        ·skip
         refine wp_skip ?_
         refine block_n ?_
         refine then_n ?_
         refine region_seq hS (by kernel_rfl)
           (cF rfl (o_add .t (.ci (by kernel_rfl))) r1 trivial
           (cF rfl (o_move .t (by rfl)) r1 trivial
           Chain.nil))
           (by kernel_rfl) (by rw [hB]; kernel_rfl) ?_
         clear hS; intro a w F hS
         obtain ⟨F, hS⟩ := hS.norm [(0, _), (4, _), (5, _), (10, _), (11, _), (12, _), (13, _), (14, _), (61, _), (62, _), (63, _), (64, _), (65, _), (66, _), (67, _), (68, _), (69, _), (70, _), (71, _), (72, _), (73, _), (74, _), (79, _), (80, _), (81, _), (82, _), (83, _), (84, _), (85, _), (86, _), (87, _), (88, _), (89, _), (90, _), (91, _), (92, _), (93, _), (94, _), (95, _), (96, _)] [(0, _), (9, _), (61, _)] ⟨rfl, rfl, rfl, rfl, rfl, rfl, rfl, rfl, rfl, rfl, rfl, rfl, rfl, rfl, rfl, rfl, rfl, rfl, rfl, rfl, rfl, rfl, rfl, rfl, rfl, rfl, rfl, rfl, rfl, rfl, rfl, rfl, rfl, rfl, rfl, rfl, rfl, rfl, rfl, rfl, trivial⟩ r3
         try dsimp only [rPair] at hS
         refine then_n ?_
         replace hS := hS.ent (i := 63) (s' := .pv (.int .i64 ((j + 1 : Nat) : Int))) rfl (.int (wrap_succ (by omega)))
         obtain ⟨F, hS⟩ := hS.norm [(63, _), (0, _), (4, _), (5, _), (61, _), (62, _)] [(0, _), (9, _), (61, _)] ⟨rfl, rfl, rfl, rfl, rfl, rfl, trivial⟩ ⟨rfl, rfl, rfl, trivial⟩
         exact ⟨(j + 1), F, ⟨by omega, trivial⟩, hS, by omega⟩
     ·skip
      have hil : j = l.length := by simp at hc4; omega
      refine wp_exit ?_
      refine then_x ?_
      refine then_x ?_
      refine block_x ?_
      refine then_n ?_
      refine wp_seq ?_
      refine wp_seq ?_
      refine region_seq hS (by kernel_rfl)
        (cF rfl (o_move .t (by rfl)) r1 trivial
        (cF rfl (o_callG1 61 (slist_c b1 N (denseI N N)) Tryd.func24 rfl (by kernel_rfl) (Args.one .t)) r1 r1
        (cF rfl (o_len_sl Tryd.underlying26 .t) r1 trivial
        (cF rfl (o_move (.ci (by kernel_rfl)) (by rfl)) trivial trivial
        Chain.nil))))
        (by kernel_rfl) (by rw [hB]; kernel_rfl) ?_
      clear hS; intro a w F hS
      obtain ⟨F, hS⟩ := hS.norm [(0, _), (4, _), (5, _), (98, _), (99, _), (100, _)] [(0, _), (9, _), (61, _)] r6 r3
      try dsimp only [rPair] at hS
      refine then_n ?_
      refine wp_block ?_
      refine loop_keep (σ := (Nat)) [0, 4, 5, 98, 99] [0, 9, 61] (fun s => [(100, .pv (.int .i64 (s : Int)))]) (fun s => []) (fun s => s ≤ (pairsF 0 (denseI N N)).length ∧ (True)) (fun s => (pairsF 0 (denseI N N)).length - s) (0) hS ⟨rfl, rfl, rfl, rfl, rfl, rfl, trivial⟩ ⟨rfl, rfl, rfl, trivial⟩ ⟨Nat.zero_le _, trivial⟩ ?_
      clear hS; intro j a w F hC hS
      try dsimp only at hC
      obtain ⟨F, hS⟩ := hS.norm [(0, _), (4, _), (5, _), (98, _), (99, _), (100, _)] [(0, _), (9, _), (61, _)] r6 r3
      try dsimp only at hS
      obtain ⟨hi, hq⟩ := hC
      refine wp_seq ?_
      refine region_seq hS (by kernel_rfl)
        (cF rfl (o_lss .t .t) r2 trivial
        Chain.nil)
        (by kernel_rfl) (by rw [hB]; kernel_rfl) ?_
      clear hS; intro a w F hS
      obtain ⟨F, hS⟩ := hS.norm [(0, _), (4, _), (5, _), (98, _), (99, _), (100, _), (101, _)] [(0, _), (9, _), (61, _)] r7 r3
      try dsimp only [rPair] at hS
      refine then_n ?_
      refine wp_seq ?_
      refine cond_b hS rfl (fun hc9 => ?_) (fun hc9 => ?_)
      ·skip
       have hil : j < (pairsF 0 (denseI N N)).length := by simp at hc9; omega
       refine wp_skip ?_
       refine then_n ?_
       refine wp_seq ?_
       refine wp_block ?_
       refine wp_seq ?_
       refine region_seq hS (by kernel_rfl)
         (cF rfl (o_indexAddr_sl (sz := 2) (.mk Tryd.underlying26 (by kernel_rfl)) (by intro x; rfl) .t .t (by first | assumption | omega) (by first | assumption | omega)) r2 trivial
         (cF rfl (o_load_ref (ag := true) (sz := 2) .t (by kernel_rfl) (by kernel_rfl) (by kernel_rfl)) r1 trivial
         (cF rfl (o_alloc (zs := [.int .i64 0, .int .i64 0]) 101 (by kernel_rfl)) trivial trivial
         (cF rfl (o_storeA (sz := 2) 101 .same .t (by kernel_rfl) (by kernel_rfl) (by kernel_rfl)) r2 r1
         Chain.nil))))
         (by kernel_rfl) (by rw [hB]; kernel_rfl) ?_
       clear hS; intro a w F hS
       replace hS := hS.sub
       obtain ⟨F, hS⟩ := hS.norm [(0, _), (4, _), (5, _), (16, _), (98, _), (99, _), (100, _), (101, _), (102, _), (103, _)] [(0, _), (9, _), (61, _), (101, _)] ⟨rfl, rfl, rfl, rfl, rfl, rfl, rfl, rfl, rfl, rfl, trivial⟩ r4
       try dsimp only [RS.sub, SF.sub, CF.sub, csub, Anc.sub, List.map, stCells, List.length_cons, List.length_nil, Nat.reduceAdd, List.drop_succ_cons, List.drop_zero, List.drop_nil, List.take_succ_cons, List.take_zero, List.take_nil, List.cons_append, List.nil_append, zCF, ldSF, rPair] at hS
       generalize Act.tau a 16 = v16 at hS
       try simp only [Int.toNat_natCast] at hS
       obtain ⟨p, hp⟩ : ∃ p, p = Go.Gm.nth (pairsF 0 (denseI N N)) j := ⟨_, rfl⟩
       rw [← hp] at hS
       have hpt := pair_told hk (show p ∈ pairsF 0 (denseI N N) by rw [hp]; exact nth_mem hil)
       refine then_n ?_
       refine wp_seq ?_
       refine region_seq hS (by kernel_rfl)
         (cF rfl (o_move .t (by rfl)) r1 trivial
         (cF rfl (o_fieldAddr (off := 1) 101 .is (by kernel_rfl) (by rfl)) r1 r1
         (cF rfl (o_load (ag := false) (sz := 1) 101 .adr (by kernel_rfl) (by kernel_rfl) (by kernel_rfl) (by rfl)) r1 r1
         (cF rfl (o_callG1 61 (slot_c b1 N (denseI N N) p.val) Tryd.func17 rfl (by kernel_rfl) (Args.two .t .t)) r2 r1
         (cF rfl (o_move .t (by rfl)) r1 trivial
         (cF rfl (o_extract .t rfl) r1 trivial
         (cF rfl (o_extract .t rfl) r1 trivial
         (cF rfl (o_assign .t (by rfl)) r1 trivial
         (cF rfl (o_assign .t (by rfl)) r1 trivial
         Chain.nil)))))))))
         (by kernel_rfl) (by rw [hB]; kernel_rfl) ?_
       clear hS; intro a w F hS
       obtain ⟨F, hS⟩ := hS.norm [(0, _), (4, _), (5, _), (16, _), (17, _), (18, _), (98, _), (99, _), (100, _), (101, _), (102, _), (103, _), (104, _), (105, _), (106, _), (107, _), (108, _), (109, _), (110, _)] [(0, _), (9, _), (61, _), (101, _)] ⟨rfl, rfl, rfl, rfl, rfl, rfl, rfl, rfl, rfl, rfl, rfl, rfl, rfl, rfl, rfl, rfl, rfl, rfl, rfl, trivial⟩ r4
       try dsimp only [List.map, List.drop_succ_cons, List.drop_zero, List.drop_nil, List.take_succ_cons, List.take_zero, List.take_nil, ldSF, rPair] at hS
       refine then_n ?_
       refine wp_seq ?_
       refine region_seq hS (by kernel_rfl)
         (cF rfl (o_move .t (by rfl)) r1 trivial
         (cF rfl (o_fieldAddr (off := 0) 101 .is (by kernel_rfl) (by rfl)) r1 r1
         (cF rfl (o_load (ag := false) (sz := 1) 101 .adr (by kernel_rfl) (by kernel_rfl) (by kernel_rfl) (by rfl)) r1 r1
         (cF rfl (o_callG1 61 (sid_c b1 N (denseI N N) p.key) Tryd.func18 rfl (by kernel_rfl) (Args.two .t .t)) r2 r1
         (cF rfl (o_move .t (by rfl)) r1 trivial
         (cF rfl (o_extract .t rfl) r1 trivial
         (cF rfl (o_extract .t rfl) r1 trivial
         (cF rfl (o_assign .t (by rfl)) r1 trivial
         (cF rfl (o_assign .t (by rfl)) r1 trivial
         Chain.nil)))))))))
         (by kernel_rfl) (by rw [hB]; kernel_rfl) ?_
       clear hS; intro a w F hS
       obtain ⟨F, hS⟩ := hS.norm [(0, _), (4, _), (5, _), (16, _), (17, _), (18, _), (19, _), (20, _), (98, _), (99, _), (100, _), (101, _), (102, _), (103, _), (104, _), (105, _), (106, _), (107, _), (108, _), (109, _), (110, _), (111, _), (112, _), (113, _), (114, _), (115, _), (116, _), (117, _)] [(0, _), (9, _), (61, _), (101, _)] ⟨rfl, rfl, rfl, rfl, rfl, rfl, rfl, rfl, rfl, rfl, rfl, rfl, rfl, rfl, rfl, rfl, rfl, rfl, rfl, rfl, rfl, rfl, rfl, rfl, rfl, rfl, rfl, rfl, trivial⟩ r4
       try dsimp only [List.map, List.drop_succ_cons, List.drop_zero, List.drop_nil, List.take_succ_cons, List.take_zero, List.take_nil, ldSF, rPair] at hS
       refine then_n ?_
       refine wp_seq ?_
       refine region_seq hS (by kernel_rfl)
         (cF rfl (o_move .t (by rfl)) r1 trivial
         (cF rfl (o_not .t) r1 trivial
         (cF rfl (o_move .t (by rfl)) r1 trivial
         (Chain.cons (Cert.cond rfl rfl (fun h => o_move .t (by rfl))) r2 trivial
         (Chain.cons (Cert.cond rfl rfl (fun h => o_not (.w h))) r2 trivial
         (cF rfl (o_or2 .t .t) r2 trivial
         (cF rfl (o_move .t (by rfl)) r1 trivial
         (Chain.cons (Cert.cond rfl rfl (fun h => o_move .t (by rfl))) r2 trivial
         (Chain.cons (Cert.cond rfl rfl (fun h => o_fieldAddr (off := 0) 101 .is (by kernel_rfl) (by rfl))) r2 r1
         (Chain.cons (Cert.cond rfl rfl (fun h => o_load (ag := false) (sz := 1) 101 (.w h .adr) (by kernel_rfl) (by kernel_rfl) (by kernel_rfl) (by rfl))) r2 r1
         (Chain.cons (Cert.cond rfl rfl (fun h => o_neq (.w h) (.w h))) r3 trivial
         (cF rfl (o_or2 .t .t) r2 trivial
         (cF rfl (o_move .t (by rfl)) r1 trivial
         (Chain.cons (Cert.cond rfl rfl (fun h => o_move .t (by rfl))) r2 trivial
         (Chain.cons (Cert.cond rfl rfl (fun h => o_fieldAddr (off := 1) 101 .is (by kernel_rfl) (by rfl))) r2 r1
         (Chain.cons (Cert.cond rfl rfl (fun h => o_load (ag := false) (sz := 1) 101 (.w h .adr) (by kernel_rfl) (by kernel_rfl) (by kernel_rfl) (by rfl))) r2 r1
         (Chain.cons (Cert.cond rfl rfl (fun h => o_neq (.w h) (.w h))) r3 trivial
         (cF rfl (o_or2 .t .t) r2 trivial
         Chain.nil))))))))))))))))))
         (by kernel_rfl) (by rw [hB]; kernel_rfl) ?_
       clear hS; intro a w F hS
       obtain ⟨F, hS⟩ := hS.norm [(0, _), (4, _), (5, _), (16, _), (17, _), (18, _), (19, _), (20, _), (98, _), (99, _), (100, _), (101, _), (102, _), (103, _), (104, _), (105, _), (106, _), (107, _), (108, _), (109, _), (110, _), (111, _), (112, _), (113, _), (114, _), (115, _), (116, _), (117, _), (118, _), (119, _), (120, _), (121, _), (122, _), (123, _), (124, _), (125, _), (126, _), (127, _), (128, _), (129, _), (130, _), (131, _), (132, _), (133, _), (134, _), (135, _)] [(0, _), (9, _), (61, _), (101, _)] ⟨rfl, rfl, rfl, rfl, rfl, rfl, rfl, rfl, rfl, rfl, rfl, rfl, rfl, rfl, rfl, rfl, rfl, rfl, rfl, rfl, rfl, rfl, rfl, rfl, rfl, rfl, rfl, rfl, rfl, rfl, rfl, rfl, rfl, rfl, rfl, rfl, rfl, rfl, rfl, rfl, rfl, rfl, rfl, rfl, rfl, rfl, trivial⟩ r4
       try dsimp only [List.map, List.drop_succ_cons, List.drop_zero, List.drop_nil, List.take_succ_cons, List.take_zero, List.take_nil, ldSF, rPair] at hS
       refine then_n ?_
       refine cond_b hS rfl (fun hc10 => ?_) (fun hc10 => ?_)
       ·skip
        unfold slotR at hc10
        rw [hpt.1, hpt.2.2.1, Int.max_eq_left hpt.2.1] at hc10
        simp [hpt.2.1, hpt.2.2.2] at hc10
       ·skip
        refine wp_skip ?_
        refine block_n ?_
        refine then_n ?_
        refine region_seq hS (by kernel_rfl)
          (cF rfl (o_add .t (.ci (by kernel_rfl))) r1 trivial
          (cF rfl (o_move .t (by rfl)) r1 trivial
          Chain.nil))
          (by kernel_rfl) (by rw [hB]; kernel_rfl) ?_
        clear hS; intro a w F hS
        obtain ⟨F, hS⟩ := hS.norm [(0, _), (4, _), (5, _), (16, _), (17, _), (18, _), (19, _), (20, _), (98, _), (99, _), (100, _), (101, _), (102, _), (103, _), (104, _), (105, _), (106, _), (107, _), (108, _), (109, _), (110, _), (111, _), (112, _), (113, _), (114, _), (115, _), (116, _), (117, _), (118, _), (119, _), (120, _), (121, _), (122, _), (123, _), (124, _), (125, _), (126, _), (127, _), (128, _), (129, _), (130, _), (131, _), (132, _), (133, _), (134, _), (135, _), (136, _)] [(0, _), (9, _), (61, _), (101, _)] ⟨rfl, rfl, rfl, rfl, rfl, rfl, rfl, rfl, rfl, rfl, rfl, rfl, rfl, rfl, rfl, rfl, rfl, rfl, rfl, rfl, rfl, rfl, rfl, rfl, rfl, rfl, rfl, rfl, rfl, rfl, rfl, rfl, rfl, rfl, rfl, rfl, rfl, rfl, rfl, rfl, rfl, rfl, rfl, rfl, rfl, rfl, rfl, trivial⟩ r4
        try dsimp only [rPair] at hS
        refine then_n ?_
        replace hS := hS.ent (i := 100) (s' := .pv (.int .i64 ((j + 1 : Nat) : Int))) rfl (.int (wrap_succ (by omega)))
        obtain ⟨F, hS⟩ := hS.norm [(100, _), (0, _), (4, _), (5, _), (98, _), (99, _)] [(0, _), (9, _), (61, _)] ⟨rfl, rfl, rfl, rfl, rfl, rfl, trivial⟩ ⟨rfl, rfl, rfl, trivial⟩
        exact ⟨(j + 1), F, ⟨by omega, trivial⟩, hS, by omega⟩
      ·skip
       have hil : j = (pairsF 0 (denseI N N)).length := by simp at hc9; omega
       refine wp_exit ?_
       refine then_x ?_
       refine then_x ?_
       refine block_x ?_
       refine then_n ?_
       refine wp_seq ?_
       refine region_seq hS (by kernel_rfl)
         (cF rfl (o_move .t (by rfl)) r1 trivial
         (cF rfl (o_callG1 61 (slen_c b1 N (denseI N N)) Tryd.func20 rfl (by kernel_rfl) (Args.one .t)) r1 r1
         (cF rfl (o_move .t (by rfl)) r1 trivial
         (cF rfl (o_eql .t .t) r2 trivial
         (cF rfl (o_move .t (by rfl)) r1 trivial
         (Chain.cons (Cert.cond rfl rfl (fun h => o_move .t (by rfl))) r2 trivial
         (Chain.cons (Cert.condR rfl rfl (by rfl) (fun h => o_callG1 61 (sroom_c b1 N (denseI N N)) Tryd.func21 rfl (by kernel_rfl) (Args.one (.w h)))) r2 r1
         (Chain.cons (Cert.cond rfl rfl (fun h => o_eql (.w h) (.ci (by kernel_rfl)))) r2 trivial
         (cF rfl (o_and2 .t .t) r2 trivial
         (cF rfl (o_assign .t (by rfl)) r1 trivial
         Chain.nil))))))))))
         (by kernel_rfl) (by rw [hB]; kernel_rfl) ?_
       clear hS; intro a w F hS
       obtain ⟨F, hS⟩ := hS.norm [(4, _)] [(0, _), (9, _), (61, _)] r1 r3
       try dsimp only [rPair] at hS
       refine then_n ?_
       refine wp_ret ?_
       refine ret_P hfr hS rfl (.tmp rfl .nil) (.one (.bool (by first | rfl | (rw [dense_full N hNr.1]; simp))))

end Go.Proofs.YtdfpljecogijaaaDoor
