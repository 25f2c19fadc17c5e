/- SlotsPlays. No condition beyond those that each theorem says. -/
import Derived.Test.YtdfpljecogijaaaDoorSl4
namespace Go.Proofs.YtdfpljecogijaaaDoor
open Go Go.Gm
set_option linter.unusedVariables false
set_option linter.unusedSimpArgs false
set_option maxHeartbeats 4000000
set_option maxRecDepth 8000


theorem zeros_pairs (N : Nat) : ([] : List PairD) = pairsF 0 (zerosI N) := by
  have h := pairs_len (zerosI N) 0
  have : cntI (zerosI N) = 0 := by
    unfold cntI zerosI
    rw [List.countP_eq_zero]
    intro x hx
    have := List.eq_of_mem_replicate hx
    simp [this]
  rw [this] at h
  exact (List.eq_nil_of_length_eq_zero h).symm

theorem splays_c (room : Int) (l : List Int) (slot : Int) : FnPg Tryd.prog tabP tabV 3 [.int .i64 room, .sl rInt l, .int .i64 slot] (.bool true) := by
  refine FnPg.mk Tryd.func3 rfl Tryd.ntmps3 rfl ?_
  intro B a w F hB hfr hS
  have hll := Sat.lenSl hS (i := 1) rfl
  refine wp_seq ?_
  refine region_seq hS (by kernel_rfl)
    (cF rfl (o_assign .cb (by rfl)) trivial trivial
    Chain.nil)
    (by kernel_rfl) (by rw [hB]; kernel_rfl) ?_
  clear hS; intro a w F hS
  obtain ⟨F, hS⟩ := hS.norm [(0, _), (1, _), (2, _), (6, _)] [(0, _), (9, _)] r4 r2
  refine then_n ?_
  refine wp_seq ?_
  replace hS := hS.dupG 9 61 rfl rfl
  refine region_seq hS (by kernel_rfl)
    (cF rfl (o_move .t (by rfl)) r1 trivial
    (cF rfl (o_callNg 61 (snew_c room) Tryd.func10 rfl (by kernel_rfl) (Args.one .t) PV.ptr_one) r1 r1
    (cF rfl (o_assign .t (by rfl)) r1 trivial
    Chain.nil)))
    (by kernel_rfl) (by rw [hB]; kernel_rfl) ?_
  clear hS; intro a w F hS
  replace hS := hS.sub
  obtain ⟨F, hS⟩ := hS.norm [(0, _), (1, _), (2, _), (6, _), (7, _)] [(0, _), (9, _), (61, _)] r5 r3
  try dsimp only [RS.sub, SF.sub, CF.sub, csub, Anc.sub, List.map] at hS
  generalize Act.tau a 24 = v24 at hS
  obtain ⟨_, _, _, ho⟩ := hS.obGet 61 rfl
  obtain ⟨b1, rfl⟩ := slotsH_ptr ho
  clear ho
  replace hS := hS.turn 61 rfl (r' := RS.hp (slotsH (.pointer (some ⟨b1, 0, none⟩)) (roomN room) (zerosI (roomN room)))) (fun _ _ _ _ h => h)
  obtain ⟨F, hS⟩ := hS.norm [(0, _), (1, _), (2, _), (6, _), (7, _)] [(0, _), (9, _), (61, _)] r5 r3
  refine then_n ?_
  refine wp_seq ?_
  refine wp_seq ?_
  refine region_seq hS (by kernel_rfl)
    (cF rfl (o_move .t (by rfl)) r1 trivial
    (cF rfl (o_nil_eql _ Tryd.underlying23 rfl .t) r1 trivial
    (cF rfl (o_move .t (by rfl)) r1 trivial
    (Chain.cons (Cert.cond rfl rfl (fun h => o_move .t (by rfl))) r2 trivial
    (Chain.cons (Cert.cond rfl rfl (fun h => o_len_sl Tryd.underlying22 (.w h))) r2 trivial
    (Chain.cons (Cert.cond rfl rfl (fun h => o_gtr (.w h) (.ci (by kernel_rfl)))) r2 trivial
    (cF rfl (o_or2 .t .t) r2 trivial
    Chain.nil)))))))
    (by kernel_rfl) (by rw [hB]; kernel_rfl) ?_
  clear hS; intro a w F hS
  obtain ⟨F, hS⟩ := hS.norm [(0, _), (1, _), (2, _), (6, _), (7, _), (31, _)] [(0, _), (9, _), (61, _)] r6 r3
  refine then_n ?_
  refine cond_b hS rfl (fun hc0 => ?_) (fun hc0 => ?_)
  ·skip
   refine wp_seq ?_
   refine region_seq hS (by kernel_rfl)
     (cF rfl (o_move .t (by rfl)) r1 trivial
     (cF rfl (o_nil_neq _ Tryd.underlying23 rfl .t) r1 trivial
     (cF rfl (o_move .t (by rfl)) r1 trivial
     (Chain.cons (Cert.cond rfl rfl (fun h => o_callPg 9 (livesS_c) Tryd.func11 rfl (by kernel_rfl) Args.nil)) r1 r1
     (cF rfl (o_and2 .t .t) r2 trivial
     (cF rfl (o_assign .t (by rfl)) r1 trivial
     Chain.nil))))))
     (by kernel_rfl) (by rw [hB]; kernel_rfl) ?_
   clear hS; intro a w F hS
   obtain ⟨F, hS⟩ := hS.norm [(0, _), (1, _), (2, _), (6, _), (7, _)] [(0, _), (9, _), (61, _)] r5 r3
   refine then_n ?_
   refine wp_ret ?_
   refine then_r ?_
   refine ret_P hfr hS rfl (.tmp rfl .nil) (.one (.bool (by first | rfl | simp)))
  ·skip
   refine wp_skip ?_
   refine then_n ?_
   refine wp_seq ?_
   refine region_seq hS (by kernel_rfl)
     (cF rfl (o_assign (.c rfl) (by rfl)) trivial trivial
     Chain.nil)
     (by kernel_rfl) (by rw [hB]; kernel_rfl) ?_
   clear hS; intro a w F hS
   obtain ⟨F, hS⟩ := hS.norm [(0, _), (1, _), (2, _), (6, _), (7, _), (8, _)] [(0, _), (9, _), (61, _)] r6 r3
   refine then_n ?_
   refine wp_seq ?_
   refine wp_seq ?_
   refine region_seq hS (by kernel_rfl)
     (cF rfl (o_move .t (by rfl)) r1 trivial
     (cF rfl (o_len_sl Tryd.underlying22 .t) r1 trivial
     (cF rfl (o_move (.ci (by kernel_rfl)) (by rfl)) trivial trivial
     Chain.nil)))
     (by kernel_rfl) (by rw [hB]; kernel_rfl) ?_
   clear hS; intro a w F hS
   obtain ⟨F, hS⟩ := hS.norm [(0, _), (2, _), (6, _), (7, _), (8, _), (37, _), (38, _), (39, _)] [(0, _), (9, _), (61, _)] r8 r3
   refine then_n ?_
   refine wp_block ?_
   replace hS := hS.ent (i := 8) (s' := .pv (.sl rPair (pairsF 0 (zerosI (roomN room))))) rfl (.trans .nilSl (.sl (by rw [zeros_pairs])))
   refine loop_keep (σ := (Nat) × (List Int)) [0, 2, 6, 7, 37, 38] [0, 9] (fun s => [(39, .pv (.int .i64 (s.1 : Int))), (8, .pv (.sl rPair (pairsF 0 s.2)))]) (fun s => [(61, RS.hp (slotsH (.pointer (some ⟨b1, 0, none⟩)) (roomN room) s.2))]) (fun s => s.1 ≤ l.length ∧ (True)) (fun s => l.length - s.1) ((0), ((zerosI (roomN room)))) hS ⟨rfl, rfl, rfl, rfl, rfl, rfl, rfl, rfl, trivial⟩ ⟨rfl, rfl, rfl, trivial⟩ ⟨Nat.zero_le _, trivial⟩ ?_
   clear hS; intro s a w F hC hS
   obtain ⟨i, ids⟩ := s
   try dsimp only at hC
   obtain ⟨F, hS⟩ := hS.norm [(0, _), (2, _), (6, _), (7, _), (8, _), (37, _), (38, _), (39, _)] [(0, _), (9, _), (61, _)] r8 r3
   try dsimp only at hS
   obtain ⟨hi, hq⟩ := hC
   obtain ⟨es, hk⟩ := slotsH_some (show (slotsH (.pointer (some ⟨b1, 0, none⟩)) (roomN room) ids).p _ _ _ from hS.r 61 _ rfl)
   have hrl := roomN_le room
   have hcl := cntI_le ids
   have hlen := hk.len
   refine wp_seq ?_
   refine region_seq hS (by kernel_rfl)
     (cF rfl (o_lss .t .t) r2 trivial
     Chain.nil)
     (by kernel_rfl) (by rw [hB]; kernel_rfl) ?_
   clear hS; intro a w F hS
   obtain ⟨F, hS⟩ := hS.norm [(0, _), (2, _), (6, _), (7, _), (8, _), (37, _), (38, _), (39, _), (40, _)] [(0, _), (9, _), (61, _)] ⟨rfl, rfl, rfl, rfl, rfl, rfl, rfl, rfl, rfl, trivial⟩ r3
   refine then_n ?_
   refine wp_seq ?_
   refine cond_b hS rfl (fun hc1 => ?_) (fun hc1 => ?_)
   ·skip
    have hil : i < l.length := by simp at hc1; omega
    refine wp_skip ?_
    refine then_n ?_
    refine wp_seq ?_
    refine wp_block ?_
    refine wp_seq ?_
    refine region_seq hS (by kernel_rfl)
      (cF rfl (o_indexAddr_sl (sz := 1) (.mk Tryd.underlying22 (by kernel_rfl)) (by intro x; rfl) .t .t (by first | assumption | omega) (by first | assumption | omega)) r2 trivial
      (cF rfl (o_load_ref (ag := false) (sz := 1) .t (by kernel_rfl) (by kernel_rfl) (by kernel_rfl)) r1 trivial
      (cF rfl (o_assign .t (by rfl)) r1 trivial
      Chain.nil)))
      (by kernel_rfl) (by rw [hB]; kernel_rfl) ?_
    clear hS; intro a w F hS
    obtain ⟨F, hS⟩ := hS.norm [(0, _), (2, _), (6, _), (7, _), (8, _), (10, _), (37, _), (38, _), (39, _), (40, _), (41, _), (42, _)] [(0, _), (9, _), (61, _)] ⟨rfl, rfl, rfl, rfl, rfl, rfl, rfl, rfl, rfl, rfl, rfl, rfl, trivial⟩ r3
    try dsimp only [List.map, List.drop_succ_cons, List.drop_zero, List.drop_nil, List.take_succ_cons, List.take_zero, List.take_nil, ldSF] at hS
    try simp only [Int.toNat_natCast] at hS
    obtain ⟨x, hx⟩ : ∃ x, x = Go.Gm.nth l i := ⟨_, rfl⟩
    rw [← hx] at hS
    refine then_n ?_
    refine wp_seq ?_
    refine wp_seq ?_
    refine region_seq hS (by kernel_rfl)
      (cF rfl (o_move .t (by rfl)) r1 trivial
      (cF rfl (o_lss .t (.ci (by kernel_rfl))) r1 trivial
      (cF rfl (o_move .t (by rfl)) r1 trivial
      (Chain.cons (Cert.cond rfl rfl (fun h => o_move .t (by rfl))) r2 trivial
      (Chain.cons (Cert.cond rfl rfl (fun h => o_gtr (.w h) (.ci (by kernel_rfl)))) r2 trivial
      (cF rfl (o_and2 .t .t) r2 trivial
      Chain.nil))))))
      (by kernel_rfl) (by rw [hB]; kernel_rfl) ?_
    clear hS; intro a w F hS
    obtain ⟨F, hS⟩ := hS.norm [(0, _), (2, _), (6, _), (7, _), (8, _), (10, _), (37, _), (38, _), (39, _), (40, _), (41, _), (42, _), (43, _), (44, _), (45, _), (46, _), (47, _), (48, _)] [(0, _), (9, _), (61, _)] ⟨rfl, rfl, rfl, rfl, rfl, rfl, rfl, rfl, rfl, rfl, rfl, rfl, rfl, rfl, rfl, rfl, rfl, rfl, trivial⟩ r3
    refine then_n ?_
    refine cond_b hS rfl (fun hc2 => ?_) (fun hc2 => ?_)
    ·skip
     have hxr : -2000000 < x ∧ x < 0 := by simp at hc2; omega
     have hwx : IntKind.wrap .i64 (0 - x) = -x := by rw [wrap_i64 (by omega)]; omega
     refine wp_seq ?_
     refine region_seq hS (by kernel_rfl)
       (cF rfl (o_move .t (by rfl)) r1 trivial
       (cF rfl (o_move .t (by rfl)) r1 trivial
       (cF rfl (o_neg .t) r1 trivial
       (cF rfl (o_callP (refSlot21_c (pairsF 0 ids) (-x)) Tryd.func12 rfl (by kernel_rfl) (Args.two .t (.conv .t (Ent.int hwx)))) r2 trivial
       (cF rfl (o_assign .t (by rfl)) r1 trivial
       Chain.nil)))))
       (by kernel_rfl) (by rw [hB]; kernel_rfl) ?_
     clear hS; intro a w F hS
     obtain ⟨F, hS⟩ := hS.norm [(0, _), (2, _), (6, _), (7, _), (8, _), (10, _), (11, _), (37, _), (38, _), (39, _), (40, _), (41, _), (42, _), (43, _), (44, _), (45, _), (46, _), (47, _), (48, _), (49, _), (50, _), (51, _), (52, _)] [(0, _), (9, _), (61, _)] ⟨rfl, rfl, rfl, rfl, rfl, rfl, rfl, rfl, rfl, rfl, rfl, rfl, rfl, rfl, rfl, rfl, rfl, rfl, rfl, rfl, rfl, rfl, rfl, trivial⟩ r3
     rw [slotL_pairs] at hS
     refine then_n ?_
     refine wp_seq ?_
     refine region_seq hS (by kernel_rfl)
       (cF rfl (o_assign (.ci (by kernel_rfl)) (by rfl)) trivial trivial
       Chain.nil)
       (by kernel_rfl) (by rw [hB]; kernel_rfl) ?_
     clear hS; intro a w F hS
     obtain ⟨F, hS⟩ := hS.norm [(0, _), (2, _), (6, _), (7, _), (8, _), (10, _), (11, _), (12, _), (37, _), (38, _), (39, _), (40, _), (41, _), (42, _), (43, _), (44, _), (45, _), (46, _), (47, _), (48, _), (49, _), (50, _), (51, _), (52, _)] [(0, _), (9, _), (61, _)] ⟨rfl, rfl, rfl, rfl, rfl, rfl, rfl, rfl, rfl, rfl, rfl, rfl, rfl, rfl, rfl, rfl, rfl, rfl, rfl, rfl, rfl, rfl, rfl, rfl, trivial⟩ r3
     refine then_n ?_
     refine wp_seq ?_
     refine wp_seq ?_
     refine region_seq hS (by kernel_rfl)
       (cF rfl (o_move .t (by rfl)) r1 trivial
       (cF rfl (o_geq .t (.ci (by kernel_rfl))) r1 trivial
       Chain.nil))
       (by kernel_rfl) (by rw [hB]; kernel_rfl) ?_
     clear hS; intro a w F hS
     obtain ⟨F, hS⟩ := hS.norm [(0, _), (2, _), (6, _), (7, _), (8, _), (10, _), (11, _), (12, _), (37, _), (38, _), (39, _), (40, _), (41, _), (42, _), (43, _), (44, _), (45, _), (46, _), (47, _), (48, _), (49, _), (50, _), (51, _), (52, _), (53, _), (54, _)] [(0, _), (9, _), (61, _)] ⟨rfl, rfl, rfl, rfl, rfl, rfl, rfl, rfl, rfl, rfl, rfl, rfl, rfl, rfl, rfl, rfl, rfl, rfl, rfl, rfl, rfl, rfl, rfl, rfl, rfl, rfl, trivial⟩ r3
     refine then_n ?_
     refine cond_b hS rfl (fun hc3 => ?_) (fun hc3 => ?_)
     ·skip
      have hsl : 0 ≤ slotF 0 ids (-x) := by simpa using hc3
      obtain ⟨k, hkf⟩ := Int.eq_ofNat_of_zero_le hsl
      rw [hkf] at hS
      have hff := free_some hkf
      refine wp_seq ?_
      refine region_seq hS (by kernel_rfl)
        (cF rfl (o_move .t (by rfl)) r1 trivial
        (cF rfl (o_move .t (by rfl)) r1 trivial
        (cF rfl (o_callP (del06_c (pairsF 0 ids) (k : Int) (by rw [pairs_len]; omega)) Tryd.func13 rfl (by kernel_rfl) (Args.two .t .t)) r2 trivial
        (cF rfl (o_move .t (by rfl)) r1 trivial
        (cF rfl (o_extract .t rfl) r1 trivial
        (cF rfl (o_extract .t rfl) r1 trivial
        (cF rfl (o_assign .t (by rfl)) r1 trivial
        Chain.nil)))))))
        (by kernel_rfl) (by rw [hB]; kernel_rfl) ?_
      clear hS; intro a w F hS
      obtain ⟨F, hS⟩ := hS.norm [(0, _), (2, _), (6, _), (7, _), (8, _), (10, _), (11, _), (12, _), (37, _), (38, _), (39, _), (40, _), (41, _), (42, _), (43, _), (44, _), (45, _), (46, _), (47, _), (48, _), (49, _), (50, _), (51, _), (52, _), (53, _), (54, _), (55, _), (56, _), (57, _), (58, _), (59, _)] [(0, _), (9, _), (61, _)] ⟨rfl, rfl, rfl, rfl, rfl, rfl, rfl, rfl, rfl, rfl, rfl, rfl, rfl, rfl, rfl, rfl, rfl, rfl, rfl, rfl, rfl, rfl, rfl, rfl, rfl, rfl, rfl, rfl, rfl, rfl, rfl, trivial⟩ r3
      rw [del_free hkf] at hS
      refine then_n ?_
      refine region_seq hS (by kernel_rfl)
        (cF rfl (o_assign (.ci (by kernel_rfl)) (by rfl)) trivial trivial
        Chain.nil)
        (by kernel_rfl) (by rw [hB]; kernel_rfl) ?_
      clear hS; intro a w F hS
      obtain ⟨F, hS⟩ := hS.norm [(0, _), (2, _), (6, _), (7, _), (8, _), (10, _), (11, _), (12, _), (37, _), (38, _), (39, _), (40, _), (41, _), (42, _), (43, _), (44, _), (45, _), (46, _), (47, _), (48, _), (49, _), (50, _), (51, _), (52, _), (53, _), (54, _), (55, _), (56, _), (57, _), (58, _), (59, _)] [(0, _), (9, _), (61, _)] ⟨rfl, rfl, rfl, rfl, rfl, rfl, rfl, rfl, rfl, rfl, rfl, rfl, rfl, rfl, rfl, rfl, rfl, rfl, rfl, rfl, rfl, rfl, rfl, rfl, rfl, rfl, rfl, rfl, rfl, rfl, rfl, trivial⟩ r3
      refine then_n ?_
      refine wp_seq ?_
      refine region_seq hS (by kernel_rfl)
        (cF rfl (o_move .t (by rfl)) r1 trivial
        (cF rfl (o_move .t (by rfl)) r1 trivial
        (cF rfl (o_neg .t) r1 trivial
        (cF rfl (o_callG1 61 (sfree_c b1 (roomN room) ids (-x)) Tryd.func14 rfl (by kernel_rfl) (Args.two .t (.conv .t (Ent.int hwx)))) r2 r1
        (cF rfl (o_move .t (by rfl)) r1 trivial
        (cF rfl (o_neq .t .t) r2 trivial
        Chain.nil))))))
        (by kernel_rfl) (by rw [hB]; kernel_rfl) ?_
      clear hS; intro a w F hS
      obtain ⟨F, hS⟩ := hS.norm [(0, _), (2, _), (6, _), (7, _), (8, _), (10, _), (11, _), (12, _), (37, _), (38, _), (39, _), (40, _), (41, _), (42, _), (43, _), (44, _), (45, _), (46, _), (47, _), (48, _), (49, _), (50, _), (51, _), (52, _), (53, _), (54, _), (55, _), (56, _), (57, _), (58, _), (59, _), (61, _), (62, _), (63, _), (64, _), (65, _), (66, _)] [(0, _), (9, _), (61, _)] ⟨rfl, rfl, rfl, rfl, rfl, rfl, rfl, rfl, rfl, rfl, rfl, rfl, rfl, rfl, rfl, rfl, rfl, rfl, rfl, rfl, rfl, rfl, rfl, rfl, rfl, rfl, rfl, rfl, rfl, rfl, rfl, rfl, rfl, rfl, rfl, rfl, rfl, trivial⟩ r3
      rw [hff] at hS
      try dsimp only at hS
      refine then_n ?_
      refine cond_b hS rfl (fun hc4 => ?_) (fun hc4 => ?_)
      ·skip
       simp at hc4
      ·skip
       refine wp_skip ?_
       refine then_n ?_
       refine wp_seq ?_
       refine region_seq hS (by kernel_rfl)
         (cF rfl (o_move .t (by rfl)) r1 trivial
         (cF rfl (o_move .t (by rfl)) r1 trivial
         (cF rfl (o_callG1 61 (slot_c b1 (roomN room) (ids.set k 0) x) Tryd.func17 rfl (by kernel_rfl) (Args.two .t .t)) r2 r1
         (cF rfl (o_move .t (by rfl)) r1 trivial
         (cF rfl (o_extract .t rfl) r1 trivial
         (cF rfl (o_extract .t rfl) r1 trivial
         (cF rfl (o_assign .t (by rfl)) r1 trivial
         (cF rfl (o_assign .t (by rfl)) r1 trivial
         Chain.nil))))))))
         (by kernel_rfl) (by rw [hB]; kernel_rfl) ?_
       clear hS; intro a w F hS
       obtain ⟨F, hS⟩ := hS.norm [(0, _), (2, _), (6, _), (7, _), (8, _), (10, _), (11, _), (12, _), (18, _), (19, _), (37, _), (38, _), (39, _), (40, _), (41, _), (42, _), (43, _), (44, _), (45, _), (46, _), (47, _), (48, _), (49, _), (50, _), (51, _), (52, _), (53, _), (54, _), (55, _), (56, _), (57, _), (58, _), (59, _), (61, _), (62, _), (63, _), (64, _), (65, _), (66, _), (90, _), (91, _), (92, _), (93, _), (94, _), (95, _)] [(0, _), (9, _), (61, _)] ⟨rfl, rfl, rfl, rfl, rfl, rfl, rfl, rfl, rfl, rfl, rfl, rfl, rfl, rfl, rfl, rfl, rfl, rfl, rfl, rfl, rfl, rfl, rfl, rfl, rfl, rfl, rfl, rfl, rfl, rfl, rfl, rfl, rfl, rfl, rfl, rfl, rfl, rfl, rfl, rfl, rfl, rfl, rfl, rfl, rfl, trivial⟩ r3
       refine then_n ?_
       refine wp_seq ?_
       refine region_seq hS (by kernel_rfl)
         (cF rfl (o_move .t (by rfl)) r1 trivial
         (cF rfl (o_move .t (by rfl)) r1 trivial
         (cF rfl (o_callP (refSlot21_c (pairsF 0 (ids.set k 0)) x) Tryd.func12 rfl (by kernel_rfl) (Args.two .t .t)) r2 trivial
         (cF rfl (o_assign .t (by rfl)) r1 trivial
         Chain.nil))))
         (by kernel_rfl) (by rw [hB]; kernel_rfl) ?_
       clear hS; intro a w F hS
       obtain ⟨F, hS⟩ := hS.norm [(0, _), (2, _), (6, _), (7, _), (8, _), (10, _), (11, _), (12, _), (18, _), (19, _), (20, _), (37, _), (38, _), (39, _), (40, _), (41, _), (42, _), (43, _), (44, _), (45, _), (46, _), (47, _), (48, _), (49, _), (50, _), (51, _), (52, _), (53, _), (54, _), (55, _), (56, _), (57, _), (58, _), (59, _), (61, _), (62, _), (63, _), (64, _), (65, _), (66, _), (90, _), (91, _), (92, _), (93, _), (94, _), (95, _), (96, _), (97, _), (98, _)] [(0, _), (9, _), (61, _)] ⟨rfl, rfl, rfl, rfl, rfl, rfl, rfl, rfl, rfl, rfl, rfl, rfl, rfl, rfl, rfl, rfl, rfl, rfl, rfl, rfl, rfl, rfl, rfl, rfl, rfl, rfl, rfl, rfl, rfl, rfl, rfl, rfl, rfl, rfl, rfl, rfl, rfl, rfl, rfl, rfl, rfl, rfl, rfl, rfl, rfl, rfl, rfl, rfl, rfl, trivial⟩ r3
       refine then_n ?_
       refine wp_seq ?_
       refine region_seq hS (by kernel_rfl)
         (cF rfl (o_move .t (by rfl)) r1 trivial
         (cF rfl (o_move .t (by rfl)) r1 trivial
         (cF rfl (o_callG1 61 (sid_c b1 (roomN room) (ids.set k 0) slot) Tryd.func18 rfl (by kernel_rfl) (Args.two .t .t)) r2 r1
         (cF rfl (o_move .t (by rfl)) r1 trivial
         (cF rfl (o_extract .t rfl) r1 trivial
         (cF rfl (o_extract .t rfl) r1 trivial
         (cF rfl (o_assign .t (by rfl)) r1 trivial
         (cF rfl (o_assign .t (by rfl)) r1 trivial
         Chain.nil))))))))
         (by kernel_rfl) (by rw [hB]; kernel_rfl) ?_
       clear hS; intro a w F hS
       obtain ⟨F, hS⟩ := hS.norm [(0, _), (2, _), (6, _), (7, _), (8, _), (10, _), (11, _), (12, _), (18, _), (19, _), (20, _), (21, _), (22, _), (37, _), (38, _), (39, _), (40, _), (41, _), (42, _), (43, _), (44, _), (45, _), (46, _), (47, _), (48, _), (49, _), (50, _), (51, _), (52, _), (53, _), (54, _), (55, _), (56, _), (57, _), (58, _), (59, _), (61, _), (62, _), (63, _), (64, _), (65, _), (66, _), (90, _), (91, _), (92, _), (93, _), (94, _), (95, _), (96, _), (97, _), (98, _), (99, _), (100, _), (101, _), (102, _), (103, _), (104, _)] [(0, _), (9, _), (61, _)] ⟨rfl, rfl, rfl, rfl, rfl, rfl, rfl, rfl, rfl, rfl, rfl, rfl, rfl, rfl, rfl, rfl, rfl, rfl, rfl, rfl, rfl, rfl, rfl, rfl, rfl, rfl, rfl, rfl, rfl, rfl, rfl, rfl, rfl, rfl, rfl, rfl, rfl, rfl, rfl, rfl, rfl, rfl, rfl, rfl, rfl, rfl, rfl, rfl, rfl, rfl, rfl, rfl, rfl, rfl, rfl, rfl, rfl, trivial⟩ r3
       refine then_n ?_
       refine wp_seq ?_
       refine region_seqN hS (by kernel_rfl)
         (cG rfl (o_move .t (by rfl)) r1 trivial
         (cG rfl (o_move .t (by rfl)) r1 trivial
         (cG rfl (o_geq .t (.ci (by kernel_rfl))) r1 trivial
         (cG rfl (o_neqB Tryd.underlying4 .t .t) r2 trivial
         (cG rfl (o_move .t (by rfl)) r1 trivial
         (ChainN.cons (Cert.cond rfl rfl (fun h => o_move .t (by rfl))) r2 trivial
         (ChainN.cons (Cert.cond rfl rfl (fun h => o_move (.w h) (by rfl))) r2 trivial
         (ChainN.cons (Cert.cond2 rfl rfl (fun h => o_move .t (by rfl))) r2 trivial
         (ChainN.cons (Cert.cond2 rfl rfl (fun h => o_move .t (by rfl))) r2 trivial
         (ChainN.cons (Cert.cond2 rfl rfl (fun h => o_neq (.w h) (.w h))) r3 trivial
         (ChainN.cons (Cert.cond rfl rfl (fun h => o_and2 (.w h) (.wc h))) r3 trivial
         (cG rfl (o_or2 .t .t) r2 trivial
         (cG rfl (o_move .t (by rfl)) r1 trivial
         (ChainN.cons (Cert.cond rfl rfl (fun h => o_move .t (by rfl))) r2 trivial
         (ChainN.cons (Cert.cond rfl rfl (fun h => o_not (.w h))) r2 trivial
         (ChainN.cons (Cert.cond rfl rfl (fun h => o_move (.w h) (by rfl))) r2 trivial
         (ChainN.cons (Cert.cond2 rfl rfl (fun h => o_move .t (by rfl))) r2 trivial
         (ChainN.cons (Cert.cond2 rfl rfl (fun h => o_neq (.w h) (.ci (by kernel_rfl)))) r2 trivial
         (ChainN.cons (Cert.cond rfl rfl (fun h => o_and2 (.w h) (.wc h))) r3 trivial
         (cG rfl (o_or2 .t .t) r2 trivial
         (cG rfl (o_move .t (by rfl)) r1 trivial
         (ChainN.cons (Cert.cond rfl rfl (fun h => o_move .t (by rfl))) r2 trivial
         (ChainN.cons (Cert.cond rfl rfl (fun h => o_move .t (by rfl))) r2 trivial
         (ChainN.cons (Cert.cond rfl rfl (fun h => o_move .t (by rfl))) r2 trivial
         (ChainN.norm [(0, _), (2, _), (6, _), (7, _), (8, _), (10, _), (11, _), (12, _), (18, _), (19, _), (20, _), (21, _), (22, _), (37, _), (38, _), (39, _), (40, _), (41, _), (42, _), (43, _), (44, _), (45, _), (46, _), (47, _), (48, _), (49, _), (50, _), (51, _), (52, _), (53, _), (54, _), (55, _), (56, _), (57, _), (58, _), (59, _), (61, _), (62, _), (63, _), (64, _), (65, _), (66, _), (90, _), (91, _), (92, _), (93, _), (94, _), (95, _), (96, _), (97, _), (98, _), (99, _), (100, _), (101, _), (102, _), (103, _), (104, _), (105, _), (106, _), (107, _), (108, _), (109, _), (110, _), (111, _), (112, _), (113, _), (114, _), (115, _), (116, _), (117, _), (118, _), (119, _), (120, _), (121, _), (122, _), (123, _), (124, _), (125, _), (126, _), (127, _), (128, _)] [(0, _), (9, _), (61, _)] ⟨rfl, rfl, rfl, rfl, rfl, rfl, rfl, rfl, rfl, rfl, rfl, rfl, rfl, rfl, rfl, rfl, rfl, rfl, rfl, rfl, rfl, rfl, rfl, rfl, rfl, rfl, rfl, rfl, rfl, rfl, rfl, rfl, rfl, rfl, rfl, rfl, rfl, rfl, rfl, rfl, rfl, rfl, rfl, rfl, rfl, rfl, rfl, rfl, rfl, rfl, rfl, rfl, rfl, rfl, rfl, rfl, rfl, rfl, rfl, rfl, rfl, rfl, rfl, rfl, rfl, rfl, rfl, rfl, rfl, rfl, rfl, rfl, rfl, rfl, rfl, rfl, rfl, rfl, rfl, rfl, rfl, trivial⟩ r3
         (ChainN.cons (Cert.cond rfl rfl (fun h => o_callP (refId21_c (pairsF 0 (ids.set k 0)) slot) Tryd.func19 rfl (by kernel_rfl) (Args.two (.w h) (.w h)))) r3 trivial
         (ChainN.cons (Cert.cond rfl rfl (fun h => o_neq (.w h) (.w h))) r3 trivial
         (cG rfl (o_or2 .t .t) r2 trivial
         (cG rfl (o_move .t (by rfl)) r1 trivial
         (ChainN.cons (Cert.cond rfl rfl (fun h => o_move .t (by rfl))) r2 trivial
         (ChainN.cons (Cert.cond rfl rfl (fun h => o_move .t (by rfl))) r2 trivial
         (ChainN.cons (Cert.cond rfl rfl (fun h => o_neq (.w h) (.ci (by kernel_rfl)))) r2 trivial
         (ChainN.cons (Cert.cond rfl rfl (fun h => o_neqB Tryd.underlying4 (.w h) (.w h))) r3 trivial
         (cG rfl (o_or2 .t .t) r2 trivial
         (cG rfl (o_move .t (by rfl)) r1 trivial
         (ChainN.cons (Cert.cond rfl rfl (fun h => o_move .t (by rfl))) r2 trivial
         (ChainN.cons (Cert.condR rfl rfl (by rfl) (fun h => o_callG1 61 (slen_c b1 (roomN room) (ids.set k 0)) Tryd.func20 rfl (by kernel_rfl) (Args.one (.w h)))) r2 r1
         (ChainN.cons (Cert.cond rfl rfl (fun h => o_move .t (by rfl))) r2 trivial
         (ChainN.cons (Cert.cond rfl rfl (fun h => o_len_sl Tryd.underlying26 (.w h))) r2 trivial
         (ChainN.cons (Cert.cond rfl rfl (fun h => o_neq (.w h) (.w h))) r3 trivial
         (cG rfl (o_or2 .t .t) r2 trivial
         (cG rfl (o_move .t (by rfl)) r1 trivial
         (ChainN.cons (Cert.cond rfl rfl (fun h => o_move .t (by rfl))) r2 trivial
         (ChainN.cons (Cert.condR rfl rfl (by rfl) (fun h => o_callG1 61 (sroom_c b1 (roomN room) (ids.set k 0)) Tryd.func21 rfl (by kernel_rfl) (Args.one (.w h)))) r2 r1
         (ChainN.cons (Cert.cond rfl rfl (fun h => o_move .t (by rfl))) r2 trivial
         (ChainN.cons (Cert.cond rfl rfl (fun h => o_callP (room21_c room) Tryd.func22 rfl (by kernel_rfl) (Args.one (.w h)))) r2 trivial
         (ChainN.cons (Cert.cond rfl rfl (fun h => o_move .t (by rfl))) r2 trivial
         (ChainN.cons (Cert.cond rfl rfl (fun h => o_len_sl Tryd.underlying26 (.w h))) r2 trivial
         (ChainN.cons (Cert.cond rfl rfl (fun h => o_sub (.w h) (.w h))) r3 trivial
         (ChainN.norm [(0, _), (2, _), (6, _), (7, _), (8, _), (10, _), (11, _), (12, _), (18, _), (19, _), (20, _), (21, _), (22, _), (37, _), (38, _), (39, _), (40, _), (41, _), (42, _), (43, _), (44, _), (45, _), (46, _), (47, _), (48, _), (49, _), (50, _), (51, _), (52, _), (53, _), (54, _), (55, _), (56, _), (57, _), (58, _), (59, _), (61, _), (62, _), (63, _), (64, _), (65, _), (66, _), (90, _), (91, _), (92, _), (93, _), (94, _), (95, _), (96, _), (97, _), (98, _), (99, _), (100, _), (101, _), (102, _), (103, _), (104, _), (105, _), (106, _), (107, _), (108, _), (109, _), (110, _), (111, _), (112, _), (113, _), (114, _), (115, _), (116, _), (117, _), (118, _), (119, _), (120, _), (121, _), (122, _), (123, _), (124, _), (125, _), (126, _), (127, _), (128, _), (129, _), (130, _), (131, _), (132, _), (133, _), (134, _), (135, _), (136, _), (137, _), (138, _), (139, _), (140, _), (141, _), (142, _), (143, _), (144, _), (145, _), (146, _), (147, _), (148, _), (149, _), (150, _), (151, _), (152, _)] [(0, _), (9, _), (61, _)] ⟨rfl, rfl, rfl, rfl, rfl, rfl, rfl, rfl, rfl, rfl, rfl, rfl, rfl, rfl, rfl, rfl, rfl, rfl, rfl, rfl, rfl, rfl, rfl, rfl, rfl, rfl, rfl, rfl, rfl, rfl, rfl, rfl, rfl, rfl, rfl, rfl, rfl, rfl, rfl, rfl, rfl, rfl, rfl, rfl, rfl, rfl, rfl, rfl, rfl, rfl, rfl, rfl, rfl, rfl, rfl, rfl, rfl, rfl, rfl, rfl, rfl, rfl, rfl, rfl, rfl, rfl, rfl, rfl, rfl, rfl, rfl, rfl, rfl, rfl, rfl, rfl, rfl, rfl, rfl, rfl, rfl, rfl, rfl, rfl, rfl, rfl, rfl, rfl, rfl, rfl, rfl, rfl, rfl, rfl, rfl, rfl, rfl, rfl, rfl, rfl, rfl, rfl, rfl, rfl, rfl, trivial⟩ r3
         (ChainN.cons (Cert.cond rfl rfl (fun h => o_neq (.w h) (.w h))) r3 trivial
         (cG rfl (o_or2 .t .t) r2 trivial
         (cG rfl (o_move .t (by rfl)) r1 trivial
         (ChainN.cons (Cert.cond rfl rfl (fun h => o_move .t (by rfl))) r2 trivial
         (ChainN.cons (Cert.condR rfl rfl (by rfl) (fun h => o_callG1 61 (slist_c b1 (roomN room) (ids.set k 0)) Tryd.func24 rfl (by kernel_rfl) (Args.one (.w h)))) r2 r1
         (ChainN.cons (Cert.cond rfl rfl (fun h => o_move .t (by rfl))) r2 trivial
         (ChainN.cons (Cert.cond rfl rfl (fun h => o_callP (same06_c (pairsF 0 (ids.set k 0)) (pairsF 0 (ids.set k 0))) Tryd.func23 rfl (by kernel_rfl) (Args.two (.w h) (.w h)))) r3 trivial
         (ChainN.cons (Cert.cond rfl rfl (fun h => o_not (.w h))) r2 trivial
         (cG rfl (o_or2 .t .t) r2 trivial
         ChainN.nil)))))))))))))))))))))))))))))))))))))))))))))))))))))))))))
         (by kernel_rfl) (by rw [hB]; kernel_rfl) ?_
       clear hS; intro a w F hS
       obtain ⟨F, hS⟩ := hS.norm [(0, _), (2, _), (6, _), (7, _), (8, _), (10, _), (11, _), (12, _), (18, _), (19, _), (20, _), (21, _), (22, _), (37, _), (38, _), (39, _), (40, _), (41, _), (42, _), (43, _), (44, _), (45, _), (46, _), (47, _), (48, _), (49, _), (50, _), (51, _), (52, _), (53, _), (54, _), (55, _), (56, _), (57, _), (58, _), (59, _), (61, _), (62, _), (63, _), (64, _), (65, _), (66, _), (90, _), (91, _), (92, _), (93, _), (94, _), (95, _), (96, _), (97, _), (98, _), (99, _), (100, _), (101, _), (102, _), (103, _), (104, _), (105, _), (106, _), (107, _), (108, _), (109, _), (110, _), (111, _), (112, _), (113, _), (114, _), (115, _), (116, _), (117, _), (118, _), (119, _), (120, _), (121, _), (122, _), (123, _), (124, _), (125, _), (126, _), (127, _), (128, _), (129, _), (130, _), (131, _), (132, _), (133, _), (134, _), (135, _), (136, _), (137, _), (138, _), (139, _), (140, _), (141, _), (142, _), (143, _), (144, _), (145, _), (146, _), (147, _), (148, _), (149, _), (150, _), (151, _), (152, _), (153, _), (154, _), (155, _), (156, _), (157, _), (158, _), (159, _), (160, _), (161, _)] [(0, _), (9, _), (61, _)] ⟨rfl, rfl, rfl, rfl, rfl, rfl, rfl, rfl, rfl, rfl, rfl, rfl, rfl, rfl, rfl, rfl, rfl, rfl, rfl, rfl, rfl, rfl, rfl, rfl, rfl, rfl, rfl, rfl, rfl, rfl, rfl, rfl, rfl, rfl, rfl, rfl, rfl, rfl, rfl, rfl, rfl, rfl, rfl, rfl, rfl, rfl, rfl, rfl, rfl, rfl, rfl, rfl, rfl, rfl, rfl, rfl, rfl, rfl, rfl, rfl, rfl, rfl, rfl, rfl, rfl, rfl, rfl, rfl, rfl, rfl, rfl, rfl, rfl, rfl, rfl, rfl, rfl, rfl, rfl, rfl, rfl, rfl, rfl, rfl, rfl, rfl, rfl, rfl, rfl, rfl, rfl, rfl, rfl, rfl, rfl, rfl, rfl, rfl, rfl, rfl, rfl, rfl, rfl, rfl, rfl, rfl, rfl, rfl, rfl, rfl, rfl, rfl, rfl, rfl, trivial⟩ r3
       refine then_n ?_
       refine cond_b hS rfl (fun hc5 => ?_) (fun hc5 => ?_)
       ·skip
        have hc2 := cntI_le (ids.set k 0)
        obtain ⟨es2, hk2⟩ := slotsH_some (show (slotsH (.pointer (some ⟨b1, 0, none⟩)) (roomN room) (ids.set k 0)).p _ _ _ from hS.r 61 _ rfl)
        have hl2 := hk2.len
        have ht := told_all (N := (roomN room)) (ids := (ids.set k 0)) x slot (by omega) (by omega)
        exact Bool.noConfusion (ht.symm.trans hc5)
       ·skip
        refine wp_skip ?_
        refine block_n ?_
        refine then_n ?_
        refine region_seq hS (by kernel_rfl)
          (cF rfl (o_add .t (.ci (by kernel_rfl))) r1 trivial
          (cF rfl (o_move .t (by rfl)) r1 trivial
          Chain.nil))
          (by kernel_rfl) (by rw [hB]; kernel_rfl) ?_
        clear hS; intro a w F hS
        obtain ⟨F, hS⟩ := hS.norm [(0, _), (2, _), (6, _), (7, _), (8, _), (10, _), (11, _), (12, _), (18, _), (19, _), (20, _), (21, _), (22, _), (37, _), (38, _), (39, _), (40, _), (41, _), (42, _), (43, _), (44, _), (45, _), (46, _), (47, _), (48, _), (49, _), (50, _), (51, _), (52, _), (53, _), (54, _), (55, _), (56, _), (57, _), (58, _), (59, _), (61, _), (62, _), (63, _), (64, _), (65, _), (66, _), (90, _), (91, _), (92, _), (93, _), (94, _), (95, _), (96, _), (97, _), (98, _), (99, _), (100, _), (101, _), (102, _), (103, _), (104, _), (105, _), (106, _), (107, _), (108, _), (109, _), (110, _), (111, _), (112, _), (113, _), (114, _), (115, _), (116, _), (117, _), (118, _), (119, _), (120, _), (121, _), (122, _), (123, _), (124, _), (125, _), (126, _), (127, _), (128, _), (129, _), (130, _), (131, _), (132, _), (133, _), (134, _), (135, _), (136, _), (137, _), (138, _), (139, _), (140, _), (141, _), (142, _), (143, _), (144, _), (145, _), (146, _), (147, _), (148, _), (149, _), (150, _), (151, _), (152, _), (153, _), (154, _), (155, _), (156, _), (157, _), (158, _), (159, _), (160, _), (161, _), (162, _)] [(0, _), (9, _), (61, _)] ⟨rfl, rfl, rfl, rfl, rfl, rfl, rfl, rfl, rfl, rfl, rfl, rfl, rfl, rfl, rfl, rfl, rfl, rfl, rfl, rfl, rfl, rfl, rfl, rfl, rfl, rfl, rfl, rfl, rfl, rfl, rfl, rfl, rfl, rfl, rfl, rfl, rfl, rfl, rfl, rfl, rfl, rfl, rfl, rfl, rfl, rfl, rfl, rfl, rfl, rfl, rfl, rfl, rfl, rfl, rfl, rfl, rfl, rfl, rfl, rfl, rfl, rfl, rfl, rfl, rfl, rfl, rfl, rfl, rfl, rfl, rfl, rfl, rfl, rfl, rfl, rfl, rfl, rfl, rfl, rfl, rfl, rfl, rfl, rfl, rfl, rfl, rfl, rfl, rfl, rfl, rfl, rfl, rfl, rfl, rfl, rfl, rfl, rfl, rfl, rfl, rfl, rfl, rfl, rfl, rfl, rfl, rfl, rfl, rfl, rfl, rfl, rfl, rfl, rfl, rfl, trivial⟩ r3
        refine then_n ?_
        replace hS := hS.ent (i := 39) (s' := .pv (.int .i64 ((i + 1 : Nat) : Int))) rfl (.int (wrap_succ (by omega)))
        obtain ⟨F, hS⟩ := hS.norm [(39, _), (8, _), (0, _), (2, _), (6, _), (7, _), (37, _), (38, _)] [(61, _), (0, _), (9, _)] ⟨rfl, rfl, rfl, rfl, rfl, rfl, rfl, rfl, trivial⟩ ⟨rfl, rfl, rfl, trivial⟩
        exact ⟨((i + 1), _), F, ⟨by omega, trivial⟩, hS, by omega⟩
     ·skip
      have hff := free_none (ids := ids) (id := -x) (by simpa using hc3)
      refine wp_skip ?_
      refine then_n ?_
      refine wp_seq ?_
      refine region_seq hS (by kernel_rfl)
        (cF rfl (o_move .t (by rfl)) r1 trivial
        (cF rfl (o_move .t (by rfl)) r1 trivial
        (cF rfl (o_neg .t) r1 trivial
        (cF rfl (o_callG1 61 (sfree_c b1 (roomN room) ids (-x)) Tryd.func14 rfl (by kernel_rfl) (Args.two .t (.conv .t (Ent.int hwx)))) r2 r1
        (cF rfl (o_move .t (by rfl)) r1 trivial
        (cF rfl (o_neq .t .t) r2 trivial
        Chain.nil))))))
        (by kernel_rfl) (by rw [hB]; kernel_rfl) ?_
      clear hS; intro a w F hS
      obtain ⟨F, hS⟩ := hS.norm [(0, _), (2, _), (6, _), (7, _), (8, _), (10, _), (11, _), (12, _), (37, _), (38, _), (39, _), (40, _), (41, _), (42, _), (43, _), (44, _), (45, _), (46, _), (47, _), (48, _), (49, _), (50, _), (51, _), (52, _), (53, _), (54, _), (61, _), (62, _), (63, _), (64, _), (65, _), (66, _)] [(0, _), (9, _), (61, _)] ⟨rfl, rfl, rfl, rfl, rfl, rfl, rfl, rfl, rfl, rfl, rfl, rfl, rfl, rfl, rfl, rfl, rfl, rfl, rfl, rfl, rfl, rfl, rfl, rfl, rfl, rfl, rfl, rfl, rfl, rfl, rfl, rfl, trivial⟩ r3
      rw [hff] at hS
      try dsimp only at hS
      refine then_n ?_
      refine cond_b hS rfl (fun hc6 => ?_) (fun hc6 => ?_)
      ·skip
       simp at hc6
      ·skip
       refine wp_skip ?_
       refine then_n ?_
       refine wp_seq ?_
       refine region_seq hS (by kernel_rfl)
         (cF rfl (o_move .t (by rfl)) r1 trivial
         (cF rfl (o_move .t (by rfl)) r1 trivial
         (cF rfl (o_callG1 61 (slot_c b1 (roomN room) ids x) Tryd.func17 rfl (by kernel_rfl) (Args.two .t .t)) r2 r1
         (cF rfl (o_move .t (by rfl)) r1 trivial
         (cF rfl (o_extract .t rfl) r1 trivial
         (cF rfl (o_extract .t rfl) r1 trivial
         (cF rfl (o_assign .t (by rfl)) r1 trivial
         (cF rfl (o_assign .t (by rfl)) r1 trivial
         Chain.nil))))))))
         (by kernel_rfl) (by rw [hB]; kernel_rfl) ?_
       clear hS; intro a w F hS
       obtain ⟨F, hS⟩ := hS.norm [(0, _), (2, _), (6, _), (7, _), (8, _), (10, _), (11, _), (12, _), (18, _), (19, _), (37, _), (38, _), (39, _), (40, _), (41, _), (42, _), (43, _), (44, _), (45, _), (46, _), (47, _), (48, _), (49, _), (50, _), (51, _), (52, _), (53, _), (54, _), (61, _), (62, _), (63, _), (64, _), (65, _), (66, _), (90, _), (91, _), (92, _), (93, _), (94, _), (95, _)] [(0, _), (9, _), (61, _)] ⟨rfl, rfl, rfl, rfl, rfl, rfl, rfl, rfl, rfl, rfl, rfl, rfl, rfl, rfl, rfl, rfl, rfl, rfl, rfl, rfl, rfl, rfl, rfl, rfl, rfl, rfl, rfl, rfl, rfl, rfl, rfl, rfl, rfl, rfl, rfl, rfl, rfl, rfl, rfl, rfl, trivial⟩ r3
       refine then_n ?_
       refine wp_seq ?_
       refine region_seq hS (by kernel_rfl)
         (cF rfl (o_move .t (by rfl)) r1 trivial
         (cF rfl (o_move .t (by rfl)) r1 trivial
         (cF rfl (o_callP (refSlot21_c (pairsF 0 ids) x) Tryd.func12 rfl (by kernel_rfl) (Args.two .t .t)) r2 trivial
         (cF rfl (o_assign .t (by rfl)) r1 trivial
         Chain.nil))))
         (by kernel_rfl) (by rw [hB]; kernel_rfl) ?_
       clear hS; intro a w F hS
       obtain ⟨F, hS⟩ := hS.norm [(0, _), (2, _), (6, _), (7, _), (8, _), (10, _), (11, _), (12, _), (18, _), (19, _), (20, _), (37, _), (38, _), (39, _), (40, _), (41, _), (42, _), (43, _), (44, _), (45, _), (46, _), (47, _), (48, _), (49, _), (50, _), (51, _), (52, _), (53, _), (54, _), (61, _), (62, _), (63, _), (64, _), (65, _), (66, _), (90, _), (91, _), (92, _), (93, _), (94, _), (95, _), (96, _), (97, _), (98, _)] [(0, _), (9, _), (61, _)] ⟨rfl, rfl, rfl, rfl, rfl, rfl, rfl, rfl, rfl, rfl, rfl, rfl, rfl, rfl, rfl, rfl, rfl, rfl, rfl, rfl, rfl, rfl, rfl, rfl, rfl, rfl, rfl, rfl, rfl, rfl, rfl, rfl, rfl, rfl, rfl, rfl, rfl, rfl, rfl, rfl, rfl, rfl, rfl, rfl, trivial⟩ r3
       refine then_n ?_
       refine wp_seq ?_
       refine region_seq hS (by kernel_rfl)
         (cF rfl (o_move .t (by rfl)) r1 trivial
         (cF rfl (o_move .t (by rfl)) r1 trivial
         (cF rfl (o_callG1 61 (sid_c b1 (roomN room) ids slot) Tryd.func18 rfl (by kernel_rfl) (Args.two .t .t)) r2 r1
         (cF rfl (o_move .t (by rfl)) r1 trivial
         (cF rfl (o_extract .t rfl) r1 trivial
         (cF rfl (o_extract .t rfl) r1 trivial
         (cF rfl (o_assign .t (by rfl)) r1 trivial
         (cF rfl (o_assign .t (by rfl)) r1 trivial
         Chain.nil))))))))
         (by kernel_rfl) (by rw [hB]; kernel_rfl) ?_
       clear hS; intro a w F hS
       obtain ⟨F, hS⟩ := hS.norm [(0, _), (2, _), (6, _), (7, _), (8, _), (10, _), (11, _), (12, _), (18, _), (19, _), (20, _), (21, _), (22, _), (37, _), (38, _), (39, _), (40, _), (41, _), (42, _), (43, _), (44, _), (45, _), (46, _), (47, _), (48, _), (49, _), (50, _), (51, _), (52, _), (53, _), (54, _), (61, _), (62, _), (63, _), (64, _), (65, _), (66, _), (90, _), (91, _), (92, _), (93, _), (94, _), (95, _), (96, _), (97, _), (98, _), (99, _), (100, _), (101, _), (102, _), (103, _), (104, _)] [(0, _), (9, _), (61, _)] ⟨rfl, rfl, rfl, rfl, rfl, rfl, rfl, rfl, rfl, rfl, rfl, rfl, rfl, rfl, rfl, rfl, rfl, rfl, rfl, rfl, rfl, rfl, rfl, rfl, rfl, rfl, rfl, rfl, rfl, rfl, rfl, rfl, rfl, rfl, rfl, rfl, rfl, rfl, rfl, rfl, rfl, rfl, rfl, rfl, rfl, rfl, rfl, rfl, rfl, rfl, rfl, rfl, trivial⟩ r3
       refine then_n ?_
       refine wp_seq ?_
       refine region_seqN hS (by kernel_rfl)
         (cG rfl (o_move .t (by rfl)) r1 trivial
         (cG rfl (o_move .t (by rfl)) r1 trivial
         (cG rfl (o_geq .t (.ci (by kernel_rfl))) r1 trivial
         (cG rfl (o_neqB Tryd.underlying4 .t .t) r2 trivial
         (cG rfl (o_move .t (by rfl)) r1 trivial
         (ChainN.cons (Cert.cond rfl rfl (fun h => o_move .t (by rfl))) r2 trivial
         (ChainN.cons (Cert.cond rfl rfl (fun h => o_move (.w h) (by rfl))) r2 trivial
         (ChainN.cons (Cert.cond2 rfl rfl (fun h => o_move .t (by rfl))) r2 trivial
         (ChainN.cons (Cert.cond2 rfl rfl (fun h => o_move .t (by rfl))) r2 trivial
         (ChainN.cons (Cert.cond2 rfl rfl (fun h => o_neq (.w h) (.w h))) r3 trivial
         (ChainN.cons (Cert.cond rfl rfl (fun h => o_and2 (.w h) (.wc h))) r3 trivial
         (cG rfl (o_or2 .t .t) r2 trivial
         (cG rfl (o_move .t (by rfl)) r1 trivial
         (ChainN.cons (Cert.cond rfl rfl (fun h => o_move .t (by rfl))) r2 trivial
         (ChainN.cons (Cert.cond rfl rfl (fun h => o_not (.w h))) r2 trivial
         (ChainN.cons (Cert.cond rfl rfl (fun h => o_move (.w h) (by rfl))) r2 trivial
         (ChainN.cons (Cert.cond2 rfl rfl (fun h => o_move .t (by rfl))) r2 trivial
         (ChainN.cons (Cert.cond2 rfl rfl (fun h => o_neq (.w h) (.ci (by kernel_rfl)))) r2 trivial
         (ChainN.cons (Cert.cond rfl rfl (fun h => o_and2 (.w h) (.wc h))) r3 trivial
         (cG rfl (o_or2 .t .t) r2 trivial
         (cG rfl (o_move .t (by rfl)) r1 trivial
         (ChainN.cons (Cert.cond rfl rfl (fun h => o_move .t (by rfl))) r2 trivial
         (ChainN.cons (Cert.cond rfl rfl (fun h => o_move .t (by rfl))) r2 trivial
         (ChainN.cons (Cert.cond rfl rfl (fun h => o_move .t (by rfl))) r2 trivial
         (ChainN.norm [(0, _), (2, _), (6, _), (7, _), (8, _), (10, _), (11, _), (12, _), (18, _), (19, _), (20, _), (21, _), (22, _), (37, _), (38, _), (39, _), (40, _), (41, _), (42, _), (43, _), (44, _), (45, _), (46, _), (47, _), (48, _), (49, _), (50, _), (51, _), (52, _), (53, _), (54, _), (61, _), (62, _), (63, _), (64, _), (65, _), (66, _), (90, _), (91, _), (92, _), (93, _), (94, _), (95, _), (96, _), (97, _), (98, _), (99, _), (100, _), (101, _), (102, _), (103, _), (104, _), (105, _), (106, _), (107, _), (108, _), (109, _), (110, _), (111, _), (112, _), (113, _), (114, _), (115, _), (116, _), (117, _), (118, _), (119, _), (120, _), (121, _), (122, _), (123, _), (124, _), (125, _), (126, _), (127, _), (128, _)] [(0, _), (9, _), (61, _)] ⟨rfl, rfl, rfl, rfl, rfl, rfl, rfl, rfl, rfl, rfl, rfl, rfl, rfl, rfl, rfl, rfl, rfl, rfl, rfl, rfl, rfl, rfl, rfl, rfl, rfl, rfl, rfl, rfl, rfl, rfl, rfl, rfl, rfl, rfl, rfl, rfl, rfl, rfl, rfl, rfl, rfl, rfl, rfl, rfl, rfl, rfl, rfl, rfl, rfl, rfl, rfl, rfl, rfl, rfl, rfl, rfl, rfl, rfl, rfl, rfl, rfl, rfl, rfl, rfl, rfl, rfl, rfl, rfl, rfl, rfl, rfl, rfl, rfl, rfl, rfl, rfl, trivial⟩ r3
         (ChainN.cons (Cert.cond rfl rfl (fun h => o_callP (refId21_c (pairsF 0 ids) slot) Tryd.func19 rfl (by kernel_rfl) (Args.two (.w h) (.w h)))) r3 trivial
         (ChainN.cons (Cert.cond rfl rfl (fun h => o_neq (.w h) (.w h))) r3 trivial
         (cG rfl (o_or2 .t .t) r2 trivial
         (cG rfl (o_move .t (by rfl)) r1 trivial
         (ChainN.cons (Cert.cond rfl rfl (fun h => o_move .t (by rfl))) r2 trivial
         (ChainN.cons (Cert.cond rfl rfl (fun h => o_move .t (by rfl))) r2 trivial
         (ChainN.cons (Cert.cond rfl rfl (fun h => o_neq (.w h) (.ci (by kernel_rfl)))) r2 trivial
         (ChainN.cons (Cert.cond rfl rfl (fun h => o_neqB Tryd.underlying4 (.w h) (.w h))) r3 trivial
         (cG rfl (o_or2 .t .t) r2 trivial
         (cG rfl (o_move .t (by rfl)) r1 trivial
         (ChainN.cons (Cert.cond rfl rfl (fun h => o_move .t (by rfl))) r2 trivial
         (ChainN.cons (Cert.condR rfl rfl (by rfl) (fun h => o_callG1 61 (slen_c b1 (roomN room) ids) Tryd.func20 rfl (by kernel_rfl) (Args.one (.w h)))) r2 r1
         (ChainN.cons (Cert.cond rfl rfl (fun h => o_move .t (by rfl))) r2 trivial
         (ChainN.cons (Cert.cond rfl rfl (fun h => o_len_sl Tryd.underlying26 (.w h))) r2 trivial
         (ChainN.cons (Cert.cond rfl rfl (fun h => o_neq (.w h) (.w h))) r3 trivial
         (cG rfl (o_or2 .t .t) r2 trivial
         (cG rfl (o_move .t (by rfl)) r1 trivial
         (ChainN.cons (Cert.cond rfl rfl (fun h => o_move .t (by rfl))) r2 trivial
         (ChainN.cons (Cert.condR rfl rfl (by rfl) (fun h => o_callG1 61 (sroom_c b1 (roomN room) ids) Tryd.func21 rfl (by kernel_rfl) (Args.one (.w h)))) r2 r1
         (ChainN.cons (Cert.cond rfl rfl (fun h => o_move .t (by rfl))) r2 trivial
         (ChainN.cons (Cert.cond rfl rfl (fun h => o_callP (room21_c room) Tryd.func22 rfl (by kernel_rfl) (Args.one (.w h)))) r2 trivial
         (ChainN.cons (Cert.cond rfl rfl (fun h => o_move .t (by rfl))) r2 trivial
         (ChainN.cons (Cert.cond rfl rfl (fun h => o_len_sl Tryd.underlying26 (.w h))) r2 trivial
         (ChainN.cons (Cert.cond rfl rfl (fun h => o_sub (.w h) (.w h))) r3 trivial
         (ChainN.norm [(0, _), (2, _), (6, _), (7, _), (8, _), (10, _), (11, _), (12, _), (18, _), (19, _), (20, _), (21, _), (22, _), (37, _), (38, _), (39, _), (40, _), (41, _), (42, _), (43, _), (44, _), (45, _), (46, _), (47, _), (48, _), (49, _), (50, _), (51, _), (52, _), (53, _), (54, _), (61, _), (62, _), (63, _), (64, _), (65, _), (66, _), (90, _), (91, _), (92, _), (93, _), (94, _), (95, _), (96, _), (97, _), (98, _), (99, _), (100, _), (101, _), (102, _), (103, _), (104, _), (105, _), (106, _), (107, _), (108, _), (109, _), (110, _), (111, _), (112, _), (113, _), (114, _), (115, _), (116, _), (117, _), (118, _), (119, _), (120, _), (121, _), (122, _), (123, _), (124, _), (125, _), (126, _), (127, _), (128, _), (129, _), (130, _), (131, _), (132, _), (133, _), (134, _), (135, _), (136, _), (137, _), (138, _), (139, _), (140, _), (141, _), (142, _), (143, _), (144, _), (145, _), (146, _), (147, _), (148, _), (149, _), (150, _), (151, _), (152, _)] [(0, _), (9, _), (61, _)] ⟨rfl, rfl, rfl, rfl, rfl, rfl, rfl, rfl, rfl, rfl, rfl, rfl, rfl, rfl, rfl, rfl, rfl, rfl, rfl, rfl, rfl, rfl, rfl, rfl, rfl, rfl, rfl, rfl, rfl, rfl, rfl, rfl, rfl, rfl, rfl, rfl, rfl, rfl, rfl, rfl, rfl, rfl, rfl, rfl, rfl, rfl, rfl, rfl, rfl, rfl, rfl, rfl, rfl, rfl, rfl, rfl, rfl, rfl, rfl, rfl, rfl, rfl, rfl, rfl, rfl, rfl, rfl, rfl, rfl, rfl, rfl, rfl, rfl, rfl, rfl, rfl, rfl, rfl, rfl, rfl, rfl, rfl, rfl, rfl, rfl, rfl, rfl, rfl, rfl, rfl, rfl, rfl, rfl, rfl, rfl, rfl, rfl, rfl, rfl, rfl, trivial⟩ r3
         (ChainN.cons (Cert.cond rfl rfl (fun h => o_neq (.w h) (.w h))) r3 trivial
         (cG rfl (o_or2 .t .t) r2 trivial
         (cG rfl (o_move .t (by rfl)) r1 trivial
         (ChainN.cons (Cert.cond rfl rfl (fun h => o_move .t (by rfl))) r2 trivial
         (ChainN.cons (Cert.condR rfl rfl (by rfl) (fun h => o_callG1 61 (slist_c b1 (roomN room) ids) Tryd.func24 rfl (by kernel_rfl) (Args.one (.w h)))) r2 r1
         (ChainN.cons (Cert.cond rfl rfl (fun h => o_move .t (by rfl))) r2 trivial
         (ChainN.cons (Cert.cond rfl rfl (fun h => o_callP (same06_c (pairsF 0 ids) (pairsF 0 ids)) Tryd.func23 rfl (by kernel_rfl) (Args.two (.w h) (.w h)))) r3 trivial
         (ChainN.cons (Cert.cond rfl rfl (fun h => o_not (.w h))) r2 trivial
         (cG rfl (o_or2 .t .t) r2 trivial
         ChainN.nil)))))))))))))))))))))))))))))))))))))))))))))))))))))))))))
         (by kernel_rfl) (by rw [hB]; kernel_rfl) ?_
       clear hS; intro a w F hS
       obtain ⟨F, hS⟩ := hS.norm [(0, _), (2, _), (6, _), (7, _), (8, _), (10, _), (11, _), (12, _), (18, _), (19, _), (20, _), (21, _), (22, _), (37, _), (38, _), (39, _), (40, _), (41, _), (42, _), (43, _), (44, _), (45, _), (46, _), (47, _), (48, _), (49, _), (50, _), (51, _), (52, _), (53, _), (54, _), (61, _), (62, _), (63, _), (64, _), (65, _), (66, _), (90, _), (91, _), (92, _), (93, _), (94, _), (95, _), (96, _), (97, _), (98, _), (99, _), (100, _), (101, _), (102, _), (103, _), (104, _), (105, _), (106, _), (107, _), (108, _), (109, _), (110, _), (111, _), (112, _), (113, _), (114, _), (115, _), (116, _), (117, _), (118, _), (119, _), (120, _), (121, _), (122, _), (123, _), (124, _), (125, _), (126, _), (127, _), (128, _), (129, _), (130, _), (131, _), (132, _), (133, _), (134, _), (135, _), (136, _), (137, _), (138, _), (139, _), (140, _), (141, _), (142, _), (143, _), (144, _), (145, _), (146, _), (147, _), (148, _), (149, _), (150, _), (151, _), (152, _), (153, _), (154, _), (155, _), (156, _), (157, _), (158, _), (159, _), (160, _), (161, _)] [(0, _), (9, _), (61, _)] ⟨rfl, rfl, rfl, rfl, rfl, rfl, rfl, rfl, rfl, rfl, rfl, rfl, rfl, rfl, rfl, rfl, rfl, rfl, rfl, rfl, rfl, rfl, rfl, rfl, rfl, rfl, rfl, rfl, rfl, rfl, rfl, rfl, rfl, rfl, rfl, rfl, rfl, rfl, rfl, rfl, rfl, rfl, rfl, rfl, rfl, rfl, rfl, rfl, rfl, rfl, rfl, rfl, rfl, rfl, rfl, rfl, rfl, rfl, rfl, rfl, rfl, rfl, rfl, rfl, rfl, rfl, rfl, rfl, rfl, rfl, rfl, rfl, rfl, rfl, rfl, rfl, rfl, rfl, rfl, rfl, rfl, rfl, rfl, rfl, rfl, rfl, rfl, rfl, rfl, rfl, rfl, rfl, rfl, rfl, rfl, rfl, rfl, rfl, rfl, rfl, rfl, rfl, rfl, rfl, rfl, rfl, rfl, rfl, rfl, trivial⟩ r3
       refine then_n ?_
       refine cond_b hS rfl (fun hc7 => ?_) (fun hc7 => ?_)
       ·skip
        have hc2 := cntI_le ids
        obtain ⟨es2, hk2⟩ := slotsH_some (show (slotsH (.pointer (some ⟨b1, 0, none⟩)) (roomN room) ids).p _ _ _ from hS.r 61 _ rfl)
        have hl2 := hk2.len
        have ht := told_all (N := (roomN room)) (ids := ids) x slot (by omega) (by omega)
        exact Bool.noConfusion (ht.symm.trans hc7)
       ·skip
        refine wp_skip ?_
        refine block_n ?_
        refine then_n ?_
        refine region_seq hS (by kernel_rfl)
          (cF rfl (o_add .t (.ci (by kernel_rfl))) r1 trivial
          (cF rfl (o_move .t (by rfl)) r1 trivial
          Chain.nil))
          (by kernel_rfl) (by rw [hB]; kernel_rfl) ?_
        clear hS; intro a w F hS
        obtain ⟨F, hS⟩ := hS.norm [(0, _), (2, _), (6, _), (7, _), (8, _), (10, _), (11, _), (12, _), (18, _), (19, _), (20, _), (21, _), (22, _), (37, _), (38, _), (39, _), (40, _), (41, _), (42, _), (43, _), (44, _), (45, _), (46, _), (47, _), (48, _), (49, _), (50, _), (51, _), (52, _), (53, _), (54, _), (61, _), (62, _), (63, _), (64, _), (65, _), (66, _), (90, _), (91, _), (92, _), (93, _), (94, _), (95, _), (96, _), (97, _), (98, _), (99, _), (100, _), (101, _), (102, _), (103, _), (104, _), (105, _), (106, _), (107, _), (108, _), (109, _), (110, _), (111, _), (112, _), (113, _), (114, _), (115, _), (116, _), (117, _), (118, _), (119, _), (120, _), (121, _), (122, _), (123, _), (124, _), (125, _), (126, _), (127, _), (128, _), (129, _), (130, _), (131, _), (132, _), (133, _), (134, _), (135, _), (136, _), (137, _), (138, _), (139, _), (140, _), (141, _), (142, _), (143, _), (144, _), (145, _), (146, _), (147, _), (148, _), (149, _), (150, _), (151, _), (152, _), (153, _), (154, _), (155, _), (156, _), (157, _), (158, _), (159, _), (160, _), (161, _), (162, _)] [(0, _), (9, _), (61, _)] ⟨rfl, rfl, rfl, rfl, rfl, rfl, rfl, rfl, rfl, rfl, rfl, rfl, rfl, rfl, rfl, rfl, rfl, rfl, rfl, rfl, rfl, rfl, rfl, rfl, rfl, rfl, rfl, rfl, rfl, rfl, rfl, rfl, rfl, rfl, rfl, rfl, rfl, rfl, rfl, rfl, rfl, rfl, rfl, rfl, rfl, rfl, rfl, rfl, rfl, rfl, rfl, rfl, rfl, rfl, rfl, rfl, rfl, rfl, rfl, rfl, rfl, rfl, rfl, rfl, rfl, rfl, rfl, rfl, rfl, rfl, rfl, rfl, rfl, rfl, rfl, rfl, rfl, rfl, rfl, rfl, rfl, rfl, rfl, rfl, rfl, rfl, rfl, rfl, rfl, rfl, rfl, rfl, rfl, rfl, rfl, rfl, rfl, rfl, rfl, rfl, rfl, rfl, rfl, rfl, rfl, rfl, rfl, rfl, rfl, rfl, trivial⟩ r3
        refine then_n ?_
        replace hS := hS.ent (i := 39) (s' := .pv (.int .i64 ((i + 1 : Nat) : Int))) rfl (.int (wrap_succ (by omega)))
        obtain ⟨F, hS⟩ := hS.norm [(39, _), (8, _), (0, _), (2, _), (6, _), (7, _), (37, _), (38, _)] [(61, _), (0, _), (9, _)] ⟨rfl, rfl, rfl, rfl, rfl, rfl, rfl, rfl, trivial⟩ ⟨rfl, rfl, rfl, trivial⟩
        exact ⟨((i + 1), _), F, ⟨by omega, trivial⟩, hS, by omega⟩
    ·skip
     refine wp_seq ?_
     refine region_seq hS (by kernel_rfl)
       (cF rfl (o_move .t (by rfl)) r1 trivial
       (cF rfl (o_move .t (by rfl)) r1 trivial
       (cF rfl (o_move .t (by rfl)) r1 trivial
       (cF rfl (o_callP (refTake_c (pairsF 0 ids) room x (by rw [pairs_len]; omega)) Tryd.func15 rfl (by kernel_rfl) (Args.three .t .t .t)) r3 trivial
       (cF rfl (o_move .t (by rfl)) r1 trivial
       (cF rfl (o_extract .t rfl) r1 trivial
       (cF rfl (o_extract .t rfl) r1 trivial
       (cF rfl (o_extract .t rfl) r1 trivial
       (cF rfl (o_assign .t (by rfl)) r1 trivial
       (cF rfl (o_assign .t (by rfl)) r1 trivial
       (cF rfl (o_assign .t (by rfl)) r1 trivial
       Chain.nil)))))))))))
       (by kernel_rfl) (by rw [hB]; kernel_rfl) ?_
     clear hS; intro a w F hS
     obtain ⟨F, hS⟩ := hS.norm [(0, _), (2, _), (6, _), (7, _), (8, _), (10, _), (13, _), (14, _), (15, _), (37, _), (38, _), (39, _), (40, _), (41, _), (42, _), (43, _), (44, _), (45, _), (46, _), (47, _), (48, _), (67, _), (68, _), (69, _), (70, _), (71, _), (72, _), (73, _), (74, _)] [(0, _), (9, _), (61, _)] ⟨rfl, rfl, rfl, rfl, rfl, rfl, rfl, rfl, rfl, rfl, rfl, rfl, rfl, rfl, rfl, rfl, rfl, rfl, rfl, rfl, rfl, rfl, rfl, rfl, rfl, rfl, rfl, rfl, rfl, trivial⟩ r3
     rw [take_ref hk rfl] at hS
     try dsimp only at hS
     refine then_n ?_
     refine wp_seq ?_
     refine region_seq hS (by kernel_rfl)
       (cF rfl (o_move .t (by rfl)) r1 trivial
       (cF rfl (o_assign .t (by rfl)) r1 trivial
       Chain.nil))
       (by kernel_rfl) (by rw [hB]; kernel_rfl) ?_
     clear hS; intro a w F hS
     obtain ⟨F, hS⟩ := hS.norm [(0, _), (2, _), (6, _), (7, _), (8, _), (10, _), (13, _), (14, _), (15, _), (37, _), (38, _), (39, _), (40, _), (41, _), (42, _), (43, _), (44, _), (45, _), (46, _), (47, _), (48, _), (67, _), (68, _), (69, _), (70, _), (71, _), (72, _), (73, _), (74, _), (75, _)] [(0, _), (9, _), (61, _)] ⟨rfl, rfl, rfl, rfl, rfl, rfl, rfl, rfl, rfl, rfl, rfl, rfl, rfl, rfl, rfl, rfl, rfl, rfl, rfl, rfl, rfl, rfl, rfl, rfl, rfl, rfl, rfl, rfl, rfl, rfl, trivial⟩ r3
     refine then_n ?_
     refine wp_seq ?_
     refine region_seq hS (by kernel_rfl)
       (cF rfl (o_move .t (by rfl)) r1 trivial
       (cF rfl (o_move .t (by rfl)) r1 trivial
       (cF rfl (o_callG1 61 (take_c b1 (roomN room) ids x) Tryd.func16 rfl (by kernel_rfl) (Args.two .t .t)) r2 r1
       (cF rfl (o_move .t (by rfl)) r1 trivial
       (cF rfl (o_extract .t rfl) r1 trivial
       (cF rfl (o_extract .t rfl) r1 trivial
       (cF rfl (o_assign .t (by rfl)) r1 trivial
       (cF rfl (o_assign .t (by rfl)) r1 trivial
       Chain.nil))))))))
       (by kernel_rfl) (by rw [hB]; kernel_rfl) ?_
     clear hS; intro a w F hS
     obtain ⟨F, hS⟩ := hS.norm [(0, _), (2, _), (6, _), (7, _), (8, _), (10, _), (13, _), (14, _), (15, _), (16, _), (17, _), (37, _), (38, _), (39, _), (40, _), (41, _), (42, _), (43, _), (44, _), (45, _), (46, _), (47, _), (48, _), (67, _), (68, _), (69, _), (70, _), (71, _), (72, _), (73, _), (74, _), (75, _), (76, _), (77, _), (78, _), (79, _), (80, _), (81, _)] [(0, _), (9, _), (61, _)] ⟨rfl, rfl, rfl, rfl, rfl, rfl, rfl, rfl, rfl, rfl, rfl, rfl, rfl, rfl, rfl, rfl, rfl, rfl, rfl, rfl, rfl, rfl, rfl, rfl, rfl, rfl, rfl, rfl, rfl, rfl, rfl, rfl, rfl, rfl, rfl, rfl, rfl, rfl, trivial⟩ r3
     refine then_n ?_
     refine wp_seq ?_
     refine region_seq hS (by kernel_rfl)
       (cF rfl (o_move .t (by rfl)) r1 trivial
       (cF rfl (o_move .t (by rfl)) r1 trivial
       (cF rfl (o_neq .t .t) r2 trivial
       (cF rfl (o_move .t (by rfl)) r1 trivial
       (Chain.cons (Cert.cond rfl rfl (fun h => o_move .t (by rfl))) r2 trivial
       (Chain.cons (Cert.cond rfl rfl (fun h => o_move .t (by rfl))) r2 trivial
       (Chain.cons (Cert.cond rfl rfl (fun h => o_neq (.w h) (.w h))) r3 trivial
       (cF rfl (o_or2 .t .t) r2 trivial
       Chain.nil))))))))
       (by kernel_rfl) (by rw [hB]; kernel_rfl) ?_
     clear hS; intro a w F hS
     obtain ⟨F, hS⟩ := hS.norm [(0, _), (2, _), (6, _), (7, _), (8, _), (10, _), (13, _), (14, _), (15, _), (16, _), (17, _), (37, _), (38, _), (39, _), (40, _), (41, _), (42, _), (43, _), (44, _), (45, _), (46, _), (47, _), (48, _), (67, _), (68, _), (69, _), (70, _), (71, _), (72, _), (73, _), (74, _), (75, _), (76, _), (77, _), (78, _), (79, _), (80, _), (81, _), (82, _), (83, _), (84, _), (85, _), (86, _), (87, _), (88, _), (89, _)] [(0, _), (9, _), (61, _)] ⟨rfl, rfl, rfl, rfl, rfl, rfl, rfl, rfl, rfl, rfl, rfl, rfl, rfl, rfl, rfl, rfl, rfl, rfl, rfl, rfl, rfl, rfl, rfl, rfl, rfl, rfl, rfl, rfl, rfl, rfl, rfl, rfl, rfl, rfl, rfl, rfl, rfl, rfl, rfl, rfl, rfl, rfl, rfl, rfl, rfl, rfl, trivial⟩ r3
     refine then_n ?_
     refine cond_b hS rfl (fun hc8 => ?_) (fun hc8 => ?_)
     ·skip
      simp at hc8
     ·skip
      refine wp_skip ?_
      refine then_n ?_
      refine wp_seq ?_
      refine region_seq hS (by kernel_rfl)
        (cF rfl (o_move .t (by rfl)) r1 trivial
        (cF rfl (o_move .t (by rfl)) r1 trivial
        (cF rfl (o_callG1 61 (slot_c b1 (roomN room) (takeI (roomN room) ids x).1 x) Tryd.func17 rfl (by kernel_rfl) (Args.two .t .t)) r2 r1
        (cF rfl (o_move .t (by rfl)) r1 trivial
        (cF rfl (o_extract .t rfl) r1 trivial
        (cF rfl (o_extract .t rfl) r1 trivial
        (cF rfl (o_assign .t (by rfl)) r1 trivial
        (cF rfl (o_assign .t (by rfl)) r1 trivial
        Chain.nil))))))))
        (by kernel_rfl) (by rw [hB]; kernel_rfl) ?_
      clear hS; intro a w F hS
      obtain ⟨F, hS⟩ := hS.norm [(0, _), (2, _), (6, _), (7, _), (8, _), (10, _), (13, _), (14, _), (15, _), (16, _), (17, _), (18, _), (19, _), (37, _), (38, _), (39, _), (40, _), (41, _), (42, _), (43, _), (44, _), (45, _), (46, _), (47, _), (48, _), (67, _), (68, _), (69, _), (70, _), (71, _), (72, _), (73, _), (74, _), (75, _), (76, _), (77, _), (78, _), (79, _), (80, _), (81, _), (82, _), (83, _), (84, _), (85, _), (86, _), (87, _), (88, _), (89, _), (90, _), (91, _), (92, _), (93, _), (94, _), (95, _)] [(0, _), (9, _), (61, _)] ⟨rfl, rfl, rfl, rfl, rfl, rfl, rfl, rfl, rfl, rfl, rfl, rfl, rfl, rfl, rfl, rfl, rfl, rfl, rfl, rfl, rfl, rfl, rfl, rfl, rfl, rfl, rfl, rfl, rfl, rfl, rfl, rfl, rfl, rfl, rfl, rfl, rfl, rfl, rfl, rfl, rfl, rfl, rfl, rfl, rfl, rfl, rfl, rfl, rfl, rfl, rfl, rfl, rfl, rfl, trivial⟩ r3
      refine then_n ?_
      refine wp_seq ?_
      refine region_seq hS (by kernel_rfl)
        (cF rfl (o_move .t (by rfl)) r1 trivial
        (cF rfl (o_move .t (by rfl)) r1 trivial
        (cF rfl (o_callP (refSlot21_c (pairsF 0 (takeI (roomN room) ids x).1) x) Tryd.func12 rfl (by kernel_rfl) (Args.two .t .t)) r2 trivial
        (cF rfl (o_assign .t (by rfl)) r1 trivial
        Chain.nil))))
        (by kernel_rfl) (by rw [hB]; kernel_rfl) ?_
      clear hS; intro a w F hS
      obtain ⟨F, hS⟩ := hS.norm [(0, _), (2, _), (6, _), (7, _), (8, _), (10, _), (13, _), (14, _), (15, _), (16, _), (17, _), (18, _), (19, _), (20, _), (37, _), (38, _), (39, _), (40, _), (41, _), (42, _), (43, _), (44, _), (45, _), (46, _), (47, _), (48, _), (67, _), (68, _), (69, _), (70, _), (71, _), (72, _), (73, _), (74, _), (75, _), (76, _), (77, _), (78, _), (79, _), (80, _), (81, _), (82, _), (83, _), (84, _), (85, _), (86, _), (87, _), (88, _), (89, _), (90, _), (91, _), (92, _), (93, _), (94, _), (95, _), (96, _), (97, _), (98, _)] [(0, _), (9, _), (61, _)] ⟨rfl, rfl, rfl, rfl, rfl, rfl, rfl, rfl, rfl, rfl, rfl, rfl, rfl, rfl, rfl, rfl, rfl, rfl, rfl, rfl, rfl, rfl, rfl, rfl, rfl, rfl, rfl, rfl, rfl, rfl, rfl, rfl, rfl, rfl, rfl, rfl, rfl, rfl, rfl, rfl, rfl, rfl, rfl, rfl, rfl, rfl, rfl, rfl, rfl, rfl, rfl, rfl, rfl, rfl, rfl, rfl, rfl, rfl, trivial⟩ r3
      refine then_n ?_
      refine wp_seq ?_
      refine region_seq hS (by kernel_rfl)
        (cF rfl (o_move .t (by rfl)) r1 trivial
        (cF rfl (o_move .t (by rfl)) r1 trivial
        (cF rfl (o_callG1 61 (sid_c b1 (roomN room) (takeI (roomN room) ids x).1 slot) Tryd.func18 rfl (by kernel_rfl) (Args.two .t .t)) r2 r1
        (cF rfl (o_move .t (by rfl)) r1 trivial
        (cF rfl (o_extract .t rfl) r1 trivial
        (cF rfl (o_extract .t rfl) r1 trivial
        (cF rfl (o_assign .t (by rfl)) r1 trivial
        (cF rfl (o_assign .t (by rfl)) r1 trivial
        Chain.nil))))))))
        (by kernel_rfl) (by rw [hB]; kernel_rfl) ?_
      clear hS; intro a w F hS
      obtain ⟨F, hS⟩ := hS.norm [(0, _), (2, _), (6, _), (7, _), (8, _), (10, _), (13, _), (14, _), (15, _), (16, _), (17, _), (18, _), (19, _), (20, _), (21, _), (22, _), (37, _), (38, _), (39, _), (40, _), (41, _), (42, _), (43, _), (44, _), (45, _), (46, _), (47, _), (48, _), (67, _), (68, _), (69, _), (70, _), (71, _), (72, _), (73, _), (74, _), (75, _), (76, _), (77, _), (78, _), (79, _), (80, _), (81, _), (82, _), (83, _), (84, _), (85, _), (86, _), (87, _), (88, _), (89, _), (90, _), (91, _), (92, _), (93, _), (94, _), (95, _), (96, _), (97, _), (98, _), (99, _), (100, _), (101, _), (102, _), (103, _), (104, _)] [(0, _), (9, _), (61, _)] ⟨rfl, rfl, rfl, rfl, rfl, rfl, rfl, rfl, rfl, rfl, rfl, rfl, rfl, rfl, rfl, rfl, rfl, rfl, rfl, rfl, rfl, rfl, rfl, rfl, rfl, rfl, rfl, rfl, rfl, rfl, rfl, rfl, rfl, rfl, rfl, rfl, rfl, rfl, rfl, rfl, rfl, rfl, rfl, rfl, rfl, rfl, rfl, rfl, rfl, rfl, rfl, rfl, rfl, rfl, rfl, rfl, rfl, rfl, rfl, rfl, rfl, rfl, rfl, rfl, rfl, rfl, trivial⟩ r3
      refine then_n ?_
      refine wp_seq ?_
      refine region_seqN hS (by kernel_rfl)
        (cG rfl (o_move .t (by rfl)) r1 trivial
        (cG rfl (o_move .t (by rfl)) r1 trivial
        (cG rfl (o_geq .t (.ci (by kernel_rfl))) r1 trivial
        (cG rfl (o_neqB Tryd.underlying4 .t .t) r2 trivial
        (cG rfl (o_move .t (by rfl)) r1 trivial
        (ChainN.cons (Cert.cond rfl rfl (fun h => o_move .t (by rfl))) r2 trivial
        (ChainN.cons (Cert.cond rfl rfl (fun h => o_move (.w h) (by rfl))) r2 trivial
        (ChainN.cons (Cert.cond2 rfl rfl (fun h => o_move .t (by rfl))) r2 trivial
        (ChainN.cons (Cert.cond2 rfl rfl (fun h => o_move .t (by rfl))) r2 trivial
        (ChainN.cons (Cert.cond2 rfl rfl (fun h => o_neq (.w h) (.w h))) r3 trivial
        (ChainN.cons (Cert.cond rfl rfl (fun h => o_and2 (.w h) (.wc h))) r3 trivial
        (cG rfl (o_or2 .t .t) r2 trivial
        (cG rfl (o_move .t (by rfl)) r1 trivial
        (ChainN.cons (Cert.cond rfl rfl (fun h => o_move .t (by rfl))) r2 trivial
        (ChainN.cons (Cert.cond rfl rfl (fun h => o_not (.w h))) r2 trivial
        (ChainN.cons (Cert.cond rfl rfl (fun h => o_move (.w h) (by rfl))) r2 trivial
        (ChainN.cons (Cert.cond2 rfl rfl (fun h => o_move .t (by rfl))) r2 trivial
        (ChainN.cons (Cert.cond2 rfl rfl (fun h => o_neq (.w h) (.ci (by kernel_rfl)))) r2 trivial
        (ChainN.cons (Cert.cond rfl rfl (fun h => o_and2 (.w h) (.wc h))) r3 trivial
        (cG rfl (o_or2 .t .t) r2 trivial
        (cG rfl (o_move .t (by rfl)) r1 trivial
        (ChainN.cons (Cert.cond rfl rfl (fun h => o_move .t (by rfl))) r2 trivial
        (ChainN.cons (Cert.cond rfl rfl (fun h => o_move .t (by rfl))) r2 trivial
        (ChainN.cons (Cert.cond rfl rfl (fun h => o_move .t (by rfl))) r2 trivial
        (ChainN.norm [(0, _), (2, _), (6, _), (7, _), (8, _), (10, _), (13, _), (14, _), (15, _), (16, _), (17, _), (18, _), (19, _), (20, _), (21, _), (22, _), (37, _), (38, _), (39, _), (40, _), (41, _), (42, _), (43, _), (44, _), (45, _), (46, _), (47, _), (48, _), (67, _), (68, _), (69, _), (70, _), (71, _), (72, _), (73, _), (74, _), (75, _), (76, _), (77, _), (78, _), (79, _), (80, _), (81, _), (82, _), (83, _), (84, _), (85, _), (86, _), (87, _), (88, _), (89, _), (90, _), (91, _), (92, _), (93, _), (94, _), (95, _), (96, _), (97, _), (98, _), (99, _), (100, _), (101, _), (102, _), (103, _), (104, _), (105, _), (106, _), (107, _), (108, _), (109, _), (110, _), (111, _), (112, _), (113, _), (114, _), (115, _), (116, _), (117, _), (118, _), (119, _), (120, _), (121, _), (122, _), (123, _), (124, _), (125, _), (126, _), (127, _), (128, _)] [(0, _), (9, _), (61, _)] ⟨rfl, rfl, rfl, rfl, rfl, rfl, rfl, rfl, rfl, rfl, rfl, rfl, rfl, rfl, rfl, rfl, rfl, rfl, rfl, rfl, rfl, rfl, rfl, rfl, rfl, rfl, rfl, rfl, rfl, rfl, rfl, rfl, rfl, rfl, rfl, rfl, rfl, rfl, rfl, rfl, rfl, rfl, rfl, rfl, rfl, rfl, rfl, rfl, rfl, rfl, rfl, rfl, rfl, rfl, rfl, rfl, rfl, rfl, rfl, rfl, rfl, rfl, rfl, rfl, rfl, rfl, rfl, rfl, rfl, rfl, rfl, rfl, rfl, rfl, rfl, rfl, rfl, rfl, rfl, rfl, rfl, rfl, rfl, rfl, rfl, rfl, rfl, rfl, rfl, rfl, trivial⟩ r3
        (ChainN.cons (Cert.cond rfl rfl (fun h => o_callP (refId21_c (pairsF 0 (takeI (roomN room) ids x).1) slot) Tryd.func19 rfl (by kernel_rfl) (Args.two (.w h) (.w h)))) r3 trivial
        (ChainN.cons (Cert.cond rfl rfl (fun h => o_neq (.w h) (.w h))) r3 trivial
        (cG rfl (o_or2 .t .t) r2 trivial
        (cG rfl (o_move .t (by rfl)) r1 trivial
        (ChainN.cons (Cert.cond rfl rfl (fun h => o_move .t (by rfl))) r2 trivial
        (ChainN.cons (Cert.cond rfl rfl (fun h => o_move .t (by rfl))) r2 trivial
        (ChainN.cons (Cert.cond rfl rfl (fun h => o_neq (.w h) (.ci (by kernel_rfl)))) r2 trivial
        (ChainN.cons (Cert.cond rfl rfl (fun h => o_neqB Tryd.underlying4 (.w h) (.w h))) r3 trivial
        (cG rfl (o_or2 .t .t) r2 trivial
        (cG rfl (o_move .t (by rfl)) r1 trivial
        (ChainN.cons (Cert.cond rfl rfl (fun h => o_move .t (by rfl))) r2 trivial
        (ChainN.cons (Cert.condR rfl rfl (by rfl) (fun h => o_callG1 61 (slen_c b1 (roomN room) (takeI (roomN room) ids x).1) Tryd.func20 rfl (by kernel_rfl) (Args.one (.w h)))) r2 r1
        (ChainN.cons (Cert.cond rfl rfl (fun h => o_move .t (by rfl))) r2 trivial
        (ChainN.cons (Cert.cond rfl rfl (fun h => o_len_sl Tryd.underlying26 (.w h))) r2 trivial
        (ChainN.cons (Cert.cond rfl rfl (fun h => o_neq (.w h) (.w h))) r3 trivial
        (cG rfl (o_or2 .t .t) r2 trivial
        (cG rfl (o_move .t (by rfl)) r1 trivial
        (ChainN.cons (Cert.cond rfl rfl (fun h => o_move .t (by rfl))) r2 trivial
        (ChainN.cons (Cert.condR rfl rfl (by rfl) (fun h => o_callG1 61 (sroom_c b1 (roomN room) (takeI (roomN room) ids x).1) Tryd.func21 rfl (by kernel_rfl) (Args.one (.w h)))) r2 r1
        (ChainN.cons (Cert.cond rfl rfl (fun h => o_move .t (by rfl))) r2 trivial
        (ChainN.cons (Cert.cond rfl rfl (fun h => o_callP (room21_c room) Tryd.func22 rfl (by kernel_rfl) (Args.one (.w h)))) r2 trivial
        (ChainN.cons (Cert.cond rfl rfl (fun h => o_move .t (by rfl))) r2 trivial
        (ChainN.cons (Cert.cond rfl rfl (fun h => o_len_sl Tryd.underlying26 (.w h))) r2 trivial
        (ChainN.cons (Cert.cond rfl rfl (fun h => o_sub (.w h) (.w h))) r3 trivial
        (ChainN.norm [(0, _), (2, _), (6, _), (7, _), (8, _), (10, _), (13, _), (14, _), (15, _), (16, _), (17, _), (18, _), (19, _), (20, _), (21, _), (22, _), (37, _), (38, _), (39, _), (40, _), (41, _), (42, _), (43, _), (44, _), (45, _), (46, _), (47, _), (48, _), (67, _), (68, _), (69, _), (70, _), (71, _), (72, _), (73, _), (74, _), (75, _), (76, _), (77, _), (78, _), (79, _), (80, _), (81, _), (82, _), (83, _), (84, _), (85, _), (86, _), (87, _), (88, _), (89, _), (90, _), (91, _), (92, _), (93, _), (94, _), (95, _), (96, _), (97, _), (98, _), (99, _), (100, _), (101, _), (102, _), (103, _), (104, _), (105, _), (106, _), (107, _), (108, _), (109, _), (110, _), (111, _), (112, _), (113, _), (114, _), (115, _), (116, _), (117, _), (118, _), (119, _), (120, _), (121, _), (122, _), (123, _), (124, _), (125, _), (126, _), (127, _), (128, _), (129, _), (130, _), (131, _), (132, _), (133, _), (134, _), (135, _), (136, _), (137, _), (138, _), (139, _), (140, _), (141, _), (142, _), (143, _), (144, _), (145, _), (146, _), (147, _), (148, _), (149, _), (150, _), (151, _), (152, _)] [(0, _), (9, _), (61, _)] ⟨rfl, rfl, rfl, rfl, rfl, rfl, rfl, rfl, rfl, rfl, rfl, rfl, rfl, rfl, rfl, rfl, rfl, rfl, rfl, rfl, rfl, rfl, rfl, rfl, rfl, rfl, rfl, rfl, rfl, rfl, rfl, rfl, rfl, rfl, rfl, rfl, rfl, rfl, rfl, rfl, rfl, rfl, rfl, rfl, rfl, rfl, rfl, rfl, rfl, rfl, rfl, rfl, rfl, rfl, rfl, rfl, rfl, rfl, rfl, rfl, rfl, rfl, rfl, rfl, rfl, rfl, rfl, rfl, rfl, rfl, rfl, rfl, rfl, rfl, rfl, rfl, rfl, rfl, rfl, rfl, rfl, rfl, rfl, rfl, rfl, rfl, rfl, rfl, rfl, rfl, rfl, rfl, rfl, rfl, rfl, rfl, rfl, rfl, rfl, rfl, rfl, rfl, rfl, rfl, rfl, rfl, rfl, rfl, rfl, rfl, rfl, rfl, rfl, rfl, trivial⟩ r3
        (ChainN.cons (Cert.cond rfl rfl (fun h => o_neq (.w h) (.w h))) r3 trivial
        (cG rfl (o_or2 .t .t) r2 trivial
        (cG rfl (o_move .t (by rfl)) r1 trivial
        (ChainN.cons (Cert.cond rfl rfl (fun h => o_move .t (by rfl))) r2 trivial
        (ChainN.cons (Cert.condR rfl rfl (by rfl) (fun h => o_callG1 61 (slist_c b1 (roomN room) (takeI (roomN room) ids x).1) Tryd.func24 rfl (by kernel_rfl) (Args.one (.w h)))) r2 r1
        (ChainN.cons (Cert.cond rfl rfl (fun h => o_move .t (by rfl))) r2 trivial
        (ChainN.cons (Cert.cond rfl rfl (fun h => o_callP (same06_c (pairsF 0 (takeI (roomN room) ids x).1) (pairsF 0 (takeI (roomN room) ids x).1)) Tryd.func23 rfl (by kernel_rfl) (Args.two (.w h) (.w h)))) r3 trivial
        (ChainN.cons (Cert.cond rfl rfl (fun h => o_not (.w h))) r2 trivial
        (cG rfl (o_or2 .t .t) r2 trivial
        ChainN.nil)))))))))))))))))))))))))))))))))))))))))))))))))))))))))))
        (by kernel_rfl) (by rw [hB]; kernel_rfl) ?_
      clear hS; intro a w F hS
      obtain ⟨F, hS⟩ := hS.norm [(0, _), (2, _), (6, _), (7, _), (8, _), (10, _), (13, _), (14, _), (15, _), (16, _), (17, _), (18, _), (19, _), (20, _), (21, _), (22, _), (37, _), (38, _), (39, _), (40, _), (41, _), (42, _), (43, _), (44, _), (45, _), (46, _), (47, _), (48, _), (67, _), (68, _), (69, _), (70, _), (71, _), (72, _), (73, _), (74, _), (75, _), (76, _), (77, _), (78, _), (79, _), (80, _), (81, _), (82, _), (83, _), (84, _), (85, _), (86, _), (87, _), (88, _), (89, _), (90, _), (91, _), (92, _), (93, _), (94, _), (95, _), (96, _), (97, _), (98, _), (99, _), (100, _), (101, _), (102, _), (103, _), (104, _), (105, _), (106, _), (107, _), (108, _), (109, _), (110, _), (111, _), (112, _), (113, _), (114, _), (115, _), (116, _), (117, _), (118, _), (119, _), (120, _), (121, _), (122, _), (123, _), (124, _), (125, _), (126, _), (127, _), (128, _), (129, _), (130, _), (131, _), (132, _), (133, _), (134, _), (135, _), (136, _), (137, _), (138, _), (139, _), (140, _), (141, _), (142, _), (143, _), (144, _), (145, _), (146, _), (147, _), (148, _), (149, _), (150, _), (151, _), (152, _), (153, _), (154, _), (155, _), (156, _), (157, _), (158, _), (159, _), (160, _), (161, _)] [(0, _), (9, _), (61, _)] ⟨rfl, rfl, rfl, rfl, rfl, rfl, rfl, rfl, rfl, rfl, rfl, rfl, rfl, rfl, rfl, rfl, rfl, rfl, rfl, rfl, rfl, rfl, rfl, rfl, rfl, rfl, rfl, rfl, rfl, rfl, rfl, rfl, rfl, rfl, rfl, rfl, rfl, rfl, rfl, rfl, rfl, rfl, rfl, rfl, rfl, rfl, rfl, rfl, rfl, rfl, rfl, rfl, rfl, rfl, rfl, rfl, rfl, rfl, rfl, rfl, rfl, rfl, rfl, rfl, rfl, rfl, rfl, rfl, rfl, rfl, rfl, rfl, rfl, rfl, rfl, rfl, rfl, rfl, rfl, rfl, rfl, rfl, rfl, rfl, rfl, rfl, rfl, rfl, rfl, rfl, rfl, rfl, rfl, rfl, rfl, rfl, rfl, rfl, rfl, rfl, rfl, rfl, rfl, rfl, rfl, rfl, rfl, rfl, rfl, rfl, rfl, rfl, rfl, rfl, rfl, rfl, rfl, rfl, rfl, rfl, rfl, rfl, rfl, trivial⟩ r3
      refine then_n ?_
      refine cond_b hS rfl (fun hc9 => ?_) (fun hc9 => ?_)
      ·skip
       have hc2 := cntI_le (takeI (roomN room) ids x).1
       obtain ⟨es2, hk2⟩ := slotsH_some (show (slotsH (.pointer (some ⟨b1, 0, none⟩)) (roomN room) (takeI (roomN room) ids x).1).p _ _ _ from hS.r 61 _ rfl)
       have hl2 := hk2.len
       have ht := told_all (N := (roomN room)) (ids := (takeI (roomN room) ids x).1) x slot (by omega) (by omega)
       exact Bool.noConfusion (ht.symm.trans hc9)
      ·skip
       refine wp_skip ?_
       refine block_n ?_
       refine then_n ?_
       refine region_seq hS (by kernel_rfl)
         (cF rfl (o_add .t (.ci (by kernel_rfl))) r1 trivial
         (cF rfl (o_move .t (by rfl)) r1 trivial
         Chain.nil))
         (by kernel_rfl) (by rw [hB]; kernel_rfl) ?_
       clear hS; intro a w F hS
       obtain ⟨F, hS⟩ := hS.norm [(0, _), (2, _), (6, _), (7, _), (8, _), (10, _), (13, _), (14, _), (15, _), (16, _), (17, _), (18, _), (19, _), (20, _), (21, _), (22, _), (37, _), (38, _), (39, _), (40, _), (41, _), (42, _), (43, _), (44, _), (45, _), (46, _), (47, _), (48, _), (67, _), (68, _), (69, _), (70, _), (71, _), (72, _), (73, _), (74, _), (75, _), (76, _), (77, _), (78, _), (79, _), (80, _), (81, _), (82, _), (83, _), (84, _), (85, _), (86, _), (87, _), (88, _), (89, _), (90, _), (91, _), (92, _), (93, _), (94, _), (95, _), (96, _), (97, _), (98, _), (99, _), (100, _), (101, _), (102, _), (103, _), (104, _), (105, _), (106, _), (107, _), (108, _), (109, _), (110, _), (111, _), (112, _), (113, _), (114, _), (115, _), (116, _), (117, _), (118, _), (119, _), (120, _), (121, _), (122, _), (123, _), (124, _), (125, _), (126, _), (127, _), (128, _), (129, _), (130, _), (131, _), (132, _), (133, _), (134, _), (135, _), (136, _), (137, _), (138, _), (139, _), (140, _), (141, _), (142, _), (143, _), (144, _), (145, _), (146, _), (147, _), (148, _), (149, _), (150, _), (151, _), (152, _), (153, _), (154, _), (155, _), (156, _), (157, _), (158, _), (159, _), (160, _), (161, _), (162, _)] [(0, _), (9, _), (61, _)] ⟨rfl, rfl, rfl, rfl, rfl, rfl, rfl, rfl, rfl, rfl, rfl, rfl, rfl, rfl, rfl, rfl, rfl, rfl, rfl, rfl, rfl, rfl, rfl, rfl, rfl, rfl, rfl, rfl, rfl, rfl, rfl, rfl, rfl, rfl, rfl, rfl, rfl, rfl, rfl, rfl, rfl, rfl, rfl, rfl, rfl, rfl, rfl, rfl, rfl, rfl, rfl, rfl, rfl, rfl, rfl, rfl, rfl, rfl, rfl, rfl, rfl, rfl, rfl, rfl, rfl, rfl, rfl, rfl, rfl, rfl, rfl, rfl, rfl, rfl, rfl, rfl, rfl, rfl, rfl, rfl, rfl, rfl, rfl, rfl, rfl, rfl, rfl, rfl, rfl, rfl, rfl, rfl, rfl, rfl, rfl, rfl, rfl, rfl, rfl, rfl, rfl, rfl, rfl, rfl, rfl, rfl, rfl, rfl, rfl, rfl, rfl, rfl, rfl, rfl, rfl, rfl, rfl, rfl, rfl, rfl, rfl, rfl, rfl, rfl, trivial⟩ r3
       refine then_n ?_
       replace hS := hS.ent (i := 39) (s' := .pv (.int .i64 ((i + 1 : Nat) : Int))) rfl (.int (wrap_succ (by omega)))
       obtain ⟨F, hS⟩ := hS.norm [(39, _), (8, _), (0, _), (2, _), (6, _), (7, _), (37, _), (38, _)] [(61, _), (0, _), (9, _)] ⟨rfl, rfl, rfl, rfl, rfl, rfl, rfl, rfl, trivial⟩ ⟨rfl, rfl, rfl, trivial⟩
       exact ⟨((i + 1), _), F, ⟨by omega, trivial⟩, hS, by omega⟩
   ·skip
    have hil : i = l.length := by simp at hc1; omega
    refine wp_exit ?_
    refine then_x ?_
    refine then_x ?_
    refine block_x ?_
    refine then_n ?_
    refine wp_seq ?_
    refine region_seq hS (by kernel_rfl)
      (cF rfl (o_callPg 9 (livesS_c) Tryd.func11 rfl (by kernel_rfl) Args.nil) trivial r1
      (cF rfl (o_assign .t (by rfl)) r1 trivial
      Chain.nil))
      (by kernel_rfl) (by rw [hB]; kernel_rfl) ?_
    clear hS; intro a w F hS
    obtain ⟨F, hS⟩ := hS.norm [(6, _)] [(0, _), (9, _), (61, _)] r1 r3
    refine then_n ?_
    refine wp_ret ?_
    refine ret_P hfr hS rfl (.tmp rfl .nil) (.one (.bool (by first | rfl | simp)))

end Go.Proofs.YtdfpljecogijaaaDoor
