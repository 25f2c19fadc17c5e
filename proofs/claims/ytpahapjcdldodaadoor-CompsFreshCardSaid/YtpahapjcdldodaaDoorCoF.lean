/- CompsPlays. No condition beyond those that each theorem says. -/
import Derived.Test.YtpahapjcdldodaaDoorCoE
namespace Go.Proofs.YtpahapjcdldodaaDoor
open Go Go.Gm
set_option linter.unusedVariables false
set_option linter.unusedSimpArgs false
set_option maxHeartbeats 4000000
set_option maxRecDepth 8000


theorem part_nl {n : Nat} {q : List PairD} (hn : n ≤ 4096) {p : PartD} (h : p ∈ partsQ n q) : p.nodes.length ≤ 1000000 := by
  obtain ⟨i, hi, _, rfl⟩ := mem_parts.1 h
  have := up_len (compQ_up n q (i : Int))
  show (compQ n q (i : Int)).length ≤ _
  omega

theorem coplays_c (n : Int) (l : List Deed4) : FnPg Tryd.prog tabP tabV 5 [.int .i64 n, .sl rDeed4 l] (.bool true) := by
  refine FnPg.mk Tryd.func5 rfl Tryd.ntmps5 rfl ?_
  intro B a w F hB hfr hS
  have hll := Sat.lenSl hS (i := 1) rfl
  refine wp_seq ?_
  refine region_q hS
    (cF rfl (oN .cb) trivial trivial
    Chain.nil)
    hB ?_
  clear hS; intro a w F hS
  obtain ⟨F, hS⟩ := hS.nm [4, 1, 0] [9, 0] rfl rfl
  try dsimp only [rPair, rDeed4, rInt, rRow, rPart, rArc] at hS
  refine then_n (wp_seq ?_)
  replace hS := hS.dupG 9 61 rfl rfl
  refine region_q hS
    (cF rfl (oM .t) r1 trivial
    (cF rfl (o_callNg 61 (conew_c n) Tryd.func24 rfl (by kernel_rfl) (Args.one .t) PV.ptr_one) r1 r1
    (cF rfl (oN .t) r1 trivial
    Chain.nil)))
    hB ?_
  clear hS; intro a w F hS
  replace hS := hS.sub
  obtain ⟨F, hS⟩ := hS.nm [5, 4, 1, 0] [61, 9, 0] rfl rfl
  try dsimp only [RS.sub, SF.sub, CF.sub, csub, Anc.sub, List.map, rPair, rDeed4, rInt, rRow, rPart, rArc] at hS
  generalize Act.tau a 20 = v20 at hS
  obtain ⟨_, _, _, ho⟩ := hS.obGet 61 rfl
  obtain ⟨b1, rfl⟩ := coH_ptr ho
  clear ho
  replace hS := hS.turn 61 rfl (r' := RS.hp (coH (.pointer (some ⟨b1, 0, none⟩)) (roomN n) [] [])) (fun _ _ _ _ h => h)
  obtain ⟨F, hS⟩ := hS.nm [5, 4, 1, 0] [61, 9, 0] rfl rfl
  refine then_n (wp_seq (wp_seq ?_))
  refine region_q hS
    (cF rfl (oM .t) r1 trivial
    (cF rfl (o_nil_eql _ Tryd.underlying51 rfl .t) r1 trivial
    (cF rfl (oM .t) r1 trivial
    (Chain.cons (Cert.cond rfl rfl (fun h => o_move .t (by rfl))) r2 trivial
    (Chain.cons (Cert.cond rfl rfl (fun h => o_gtr (.w h) (.ci (by kernel_rfl)))) r2 trivial
    (cF rfl (o_or2 .t .t) r2 trivial
    (cF rfl (oM .t) r1 trivial
    (Chain.cons (Cert.cond rfl rfl (fun h => o_move .t (by rfl))) r2 trivial
    (Chain.cons (Cert.cond rfl rfl (fun h => o_len_sl Tryd.underlying50 (.w h))) r2 trivial
    (Chain.cons (Cert.cond rfl rfl (fun h => o_gtr (.w h) (.ci (by kernel_rfl)))) r2 trivial
    (cF rfl (o_or2 .t .t) r2 trivial
    Chain.nil)))))))))))
    hB ?_
  clear hS; intro a w F hS
  obtain ⟨F, hS⟩ := hS.nm [31, 5, 4, 1, 0] [61, 9, 0] rfl rfl
  try dsimp only [rPair, rDeed4, rInt, rRow, rPart, rArc] at hS
  refine then_n ?_
  refine cond_b hS rfl (fun hc0 => ?_) (fun hc0 => ?_)
  ·skip
   refine wp_seq ?_
   refine region_q hS
     (cF rfl (oM .t) r1 trivial
     (cF rfl (o_nil_neq _ Tryd.underlying51 rfl .t) r1 trivial
     (cF rfl (oM .t) r1 trivial
     (Chain.cons (Cert.cond rfl rfl (fun h => o_callPg 9 (lives25_c) Tryd.func25 rfl (by kernel_rfl) Args.nil)) r1 r1
     (cF rfl (o_and2 .t .t) r2 trivial
     (cF rfl (oN .t) r1 trivial
     Chain.nil))))))
     hB ?_
   clear hS; intro a w F hS
   obtain ⟨F, hS⟩ := hS.nm [5, 4, 1, 0] [61, 9, 0] rfl rfl
   try dsimp only [rPair, rDeed4, rInt, rRow, rPart, rArc] at hS
   refine then_n (wp_ret (then_r ?_))
   refine ret_P hfr hS rfl (.tmp rfl .nil) (.one (.bool (by first | rfl | simp)))
  have hll2 : l.length ≤ 40 ∧ n ≤ 9 := by simp at hc0; omega
  refine wp_skip (then_n (wp_seq ?_))
  refine region_q hS
    (cF rfl (oM .t) r1 trivial
    (cF rfl (oP (room21_c _) Tryd.func9 (Args.one .t)) r1 trivial
    (cF rfl (oN .t) r1 trivial
    Chain.nil)))
    hB ?_
  clear hS; intro a w F hS
  obtain ⟨F, hS⟩ := hS.nm [6, 5, 4, 1] [61, 9, 0] rfl rfl
  try dsimp only [rPair, rDeed4, rInt, rRow, rPart, rArc] at hS
  refine then_n (wp_seq ?_)
  refine region_q hS
    (cF rfl (oN (.c rfl)) trivial trivial
    Chain.nil)
    hB ?_
  clear hS; intro a w F hS
  obtain ⟨F, hS⟩ := hS.nm [7, 6, 5, 4, 1] [61, 9, 0] rfl rfl
  try dsimp only [rPair, rDeed4, rInt, rRow, rPart, rArc] at hS
  refine then_n (wp_seq ?_)
  refine region_q hS
    (cF rfl (oM .t) r1 trivial
    (cF rfl (oM .t) r1 trivial
    (cF rfl (oP (parts25_c (roomN n) [] (roomN_le n) (by simp) (fun p hp => by cases hp)) Tryd.func26 (Args.two .t (.conv .t (.nilSl)))) r2 trivial
    (cF rfl (oN .t) r1 trivial
    Chain.nil))))
    hB ?_
  clear hS; intro a w F hS
  obtain ⟨F, hS⟩ := hS.nm [8, 7, 6, 5, 4, 1] [61, 9, 0] rfl rfl
  try dsimp only [rPair, rDeed4, rInt, rRow, rPart, rArc] at hS
  refine then_n (wp_seq (wp_seq ?_))
  refine region_q hS
    (cF rfl (oM .t) r1 trivial
    (cF rfl (o_len_sl Tryd.underlying50 .t) r1 trivial
    (cF rfl (oM (.ci (by kernel_rfl))) trivial trivial
    Chain.nil)))
    hB ?_
  clear hS; intro a w F hS
  obtain ⟨F, hS⟩ := hS.nm [44, 43, 42, 8, 7, 6, 5, 4] [61, 9, 0] rfl rfl
  try dsimp only [rPair, rDeed4, rInt, rRow, rPart, rArc] at hS
  refine then_n (wp_block ?_)
  replace hS := hS.ent (i := 7) (s' := .pv (.sl rPair [])) rfl .nilSl
  refine loop_keep (σ := (Nat) × (List PairD) × (List PairD)) [4, 5, 6, 42, 43] [0, 9] (fun s => [(44, .pv (.int .i64 (s.1 : Int))), (7, .pv (.sl rPair s.2.1)), (8, .pv (.sl rPart (partsQ (roomN n) s.2.2)))]) (fun s => [(61, RS.hp (coH (.pointer (some ⟨b1, 0, none⟩)) (roomN n) s.2.1 s.2.2))]) (fun s => s.1 ≤ l.length ∧ (s.2.1.length ≤ s.1 ∧ InN (roomN n) s.2.1 ∧ InN (roomN n) s.2.2)) (fun s => l.length - s.1) ((0), ([]), ([])) hS ⟨rfl, rfl, rfl, rfl, rfl, rfl, rfl, rfl, trivial⟩ ⟨rfl, rfl, rfl, trivial⟩ ⟨Nat.zero_le _, ⟨Nat.le_refl 0, fun p hp => (by cases hp), fun p hp => (by cases hp)⟩⟩ ?_
  clear hS; intro s a w F hC hS
  obtain ⟨i, q, q0⟩ := s
  try dsimp only at hC
  obtain ⟨F, hS⟩ := hS.nm [44, 43, 42, 8, 7, 6, 5, 4] [61, 9, 0] rfl rfl
  try dsimp only at hS
  obtain ⟨hi, hq⟩ := hC
  obtain ⟨hql, hqn, hqn0⟩ := hq
  have hrm := roomN_le n
  refine wp_seq ?_
  refine region_q hS
    (cF rfl (o_lss .t .t) r2 trivial
    Chain.nil)
    hB ?_
  clear hS; intro a w F hS
  obtain ⟨F, hS⟩ := hS.nm [45, 44, 43, 42, 8, 7, 6, 5, 4] [61, 9, 0] rfl rfl
  try dsimp only [rPair, rDeed4, rInt, rRow, rPart, rArc] at hS
  refine then_n (wp_seq ?_)
  refine cond_b hS rfl (fun hc1 => ?_) (fun hc1 => ?_)
  ·skip
   have hil : i < l.length := by simp at hc1; omega
   refine wp_skip (then_n (wp_seq (wp_block (wp_seq ?_))))
   refine region_q hS
     (cF rfl (o_indexAddr_sl (sz := 3) (.mk Tryd.underlying50 (by kernel_rfl)) (by intro x; rfl) .t .t (by omega) (by omega)) r2 trivial
     (cF rfl (oR true 3 .t) r1 trivial
     (cF rfl (oH [.int .i64 0, .int .i64 0, .int .i64 0] 101) trivial trivial
     (cF rfl (oA 3 101 .same .t) r2 r1
     Chain.nil))))
     hB ?_
   clear hS; intro a w F hS
   replace hS := hS.sub
   obtain ⟨F, hS⟩ := hS.nm [44, 43, 42, 10, 8, 7, 6, 5, 4] [101, 61, 9, 0] rfl rfl
   try dsimp only [RS.sub, SF.sub, CF.sub, csub, Anc.sub, List.map, stCells, xL, xM, Nat.reduceAdd, xD, xE, xT, xU, xC, xN, zCF, ldSF, rPair, rDeed4, rInt, rRow, rPart, rArc] at hS
   generalize Act.tau a 10 = v10 at hS
   try simp only [Int.toNat_natCast] at hS
   refine then_n (wp_seq ?_)
   refine region_q hS
     (cF rfl (oM .t) r1 trivial
     (cF rfl (oM .t) r1 trivial
     (cF rfl (oL true 3 101 .is) r1 r1
     (cF rfl (oP (step25_c (roomN n) q (Go.Gm.nth l i) (by omega)) Tryd.func27 (Args.three .t .t (.pagg .t))) r3 trivial
     (cF rfl (oM .t) r1 trivial
     (cF rfl (o_extract .t rfl) r1 trivial
     (cF rfl (o_extract .t rfl) r1 trivial
     (cF rfl (oN .t) r1 trivial
     (cF rfl (oN .t) r1 trivial
     Chain.nil)))))))))
     hB ?_
   clear hS; intro a w F hS
   obtain ⟨F, hS⟩ := hS.nm [44, 43, 42, 12, 11, 10, 8, 7, 6, 5, 4] [101, 61, 9, 0] rfl rfl
   try dsimp only [List.map, xD, xE, xT, xU, ldSF, rPair, rDeed4, rInt, rRow, rPart, rArc] at hS
   obtain ⟨q2, hq2⟩ : ∃ z, z = (stepC (roomN n) q (Go.Gm.nth l i)).1 := ⟨_, rfl⟩
   obtain ⟨q02, hq02⟩ : ∃ z, z = wasC q q0 (Go.Gm.nth l i) := ⟨_, rfl⟩
   rw [← hq2] at hS
   have hqn2 : InN (roomN n) q2 := by rw [hq2]; exact stepC_in hqn
   have hqn02 : InN (roomN n) q02 := by rw [hq02]; exact wasC_in hqn hqn0
   have hql2 : q2.length ≤ i + 1 := by have := stepC_len (roomN n) q (Go.Gm.nth l i); rw [← hq2] at this; omega
   refine then_n (wp_seq ?_)
   refine region_q hS
     (cF rfl (oM .t) r1 trivial
     (cF rfl (oN .t) r1 trivial
     Chain.nil))
     hB ?_
   clear hS; intro a w F hS
   obtain ⟨F, hS⟩ := hS.nm [44, 43, 42, 12, 10, 8, 7, 6, 5, 4] [101, 61, 9, 0] rfl rfl
   try dsimp only [rPair, rDeed4, rInt, rRow, rPart, rArc] at hS
   refine then_n (wp_seq (wp_seq ?_))
   refine region_q hS
     (cF rfl (oM .t) r1 trivial
     (cF rfl (oL true 3 101 .is) r1 r1
     (cF rfl (o_callG1 61 (does25_c b1 (roomN n) q q0 (Go.Gm.nth l i) (by omega)) Tryd.func28 rfl (by kernel_rfl) (Args.two .t (.pagg .t))) r2 r1
     (cF rfl (oM .t) r1 trivial
     (cF rfl (o_neq .t .t) r2 trivial
     Chain.nil)))))
     hB ?_
   clear hS; intro a w F hS
   obtain ⟨F, hS⟩ := hS.nm [60, 44, 43, 42, 10, 8, 7, 6, 5, 4] [101, 61, 9, 0] rfl rfl
   try dsimp only [List.map, xD, xE, xT, xU, ldSF, rPair, rDeed4, rInt, rRow, rPart, rArc] at hS
   rw [← hq2, ← hq02] at hS
   refine then_n ?_
   refine cond_b hS rfl (fun hc2 => ?_) (fun hc2 => ?_)
   ·skip
    simp at hc2
   refine wp_skip (then_n (wp_seq ?_))
   refine region_q hS
     (cF rfl (oM .t) r1 trivial
     (cF rfl (oM .t) r1 trivial
     (cF rfl (oP (parts25_c (roomN n) q2 (roomN_le n) (by omega) hqn2) Tryd.func26 (Args.two .t .t)) r2 trivial
     (cF rfl (oN .t) r1 trivial
     Chain.nil))))
     hB ?_
   clear hS; intro a w F hS
   obtain ⟨F, hS⟩ := hS.nm [44, 43, 42, 13, 10, 8, 7, 6, 5, 4] [101, 61, 9, 0] rfl rfl
   try dsimp only [rPair, rDeed4, rInt, rRow, rPart, rArc] at hS
   refine then_n (wp_seq (wp_seq ?_))
   refine region_q hS
     (cF rfl (oF 0 101 .is) r1 r1
     (cF rfl (oL false 1 101 .adr) r1 r1
     (cF rfl (o_eql .t (.ci (by kernel_rfl))) r1 trivial
     Chain.nil)))
     hB ?_
   clear hS; intro a w F hS
   obtain ⟨F, hS⟩ := hS.nm [66, 44, 43, 42, 13, 8, 7, 6, 5, 4] [61, 9, 0] rfl rfl
   try dsimp only [List.map, xD, xE, xT, xU, ldSF, rPair, rDeed4, rInt, rRow, rPart, rArc] at hS
   refine then_n ?_
   refine cond_b hS rfl (fun hc3 => ?_) (fun hc3 => ?_)
   ·skip
    have hkd : (Go.Gm.nth l i).kind = 2 := by simpa using hc3
    have hw2 : q2 = q02 := by rw [hq2, hq02]; unfold stepC wasC; rw [if_pos hkd, if_pos hkd]
    refine region_q hS
      (cF rfl (oM .t) r1 trivial
      (cF rfl (oN .t) r1 trivial
      Chain.nil))
      hB ?_
    clear hS; intro a w F hS
    obtain ⟨F, hS⟩ := hS.nm [44, 43, 42, 13, 8, 7, 6, 5, 4] [61, 9, 0] rfl rfl
    try dsimp only [rPair, rDeed4, rInt, rRow, rPart, rArc] at hS
    replace hS := hS.ent (i := 8) (s' := .pv (.sl rPart (partsQ (roomN n) q02))) rfl (Ent.eqSl (by rw [← hw2]))
    refine then_n (wp_seq (wp_seq ?_))
    refine region_q hS
      (cF rfl (oM .t) r1 trivial
      (cF rfl (OpC.lend 61 [68] coH_read (oP (coNodes_c (roomN n) q2) Tryd.func29 (Args.one .t)) ⟨rfl, trivial⟩ (.pv (fun _ _ _ _ h => h)) trivial (by rfl)) r1 r1
      (cF rfl (oM .t) r1 trivial
      (cF rfl (o_neq .t .t) r2 trivial
      (cF rfl (oM .t) r1 trivial
      (Chain.cons (Cert.cond rfl rfl (fun h => o_move .t (by rfl))) r2 trivial
      (Chain.cons (Cert.condR rfl rfl (by rfl) (fun h => o_callG1 61 (cstale_c b1 (roomN n) q2 q02) Tryd.func30 rfl (by kernel_rfl) (Args.one (.w h)))) r2 r1
      (Chain.cons (Cert.cond rfl rfl (fun h => o_move .t (by rfl))) r2 trivial
      (Chain.cons (Cert.cond rfl rfl (fun h => o_move .t (by rfl))) r2 trivial
      (Chain.cons (Cert.cond rfl rfl (fun h => o_callP (stale25_c (partsQ (roomN n) q02) (partsQ (roomN n) q2) (Nat.le_trans (partsP_len (roomN n) q02 (roomN n)) (by omega)) (Nat.le_trans (partsP_len (roomN n) q2 (roomN n)) (by omega)) (fun p hp => part_ne hp)) Tryd.func31 rfl (by kernel_rfl) (Args.two (.w h) (.w h)))) r3 trivial
      (Chain.cons (Cert.cond rfl rfl (fun h => o_callP (sameInts_c (staleQ (roomN n) q2 q02) (staleQ (roomN n) q2 q02)) Tryd.func18 rfl (by kernel_rfl) (Args.two (.w h) (.conv (.w h) (Ent.eqSl (stale_doc hqn2 hqn02)))))) r3 trivial
      (Chain.cons (Cert.cond rfl rfl (fun h => o_not (.w h))) r2 trivial
      (cF rfl (o_or2 .t .t) r2 trivial
      Chain.nil)))))))))))))
      hB ?_
    clear hS; intro a w F hS
    obtain ⟨F, hS⟩ := hS.nm [80, 44, 43, 42, 13, 8, 7, 6, 5, 4] [61, 9, 0] rfl rfl
    try dsimp only [rPair, rDeed4, rInt, rRow, rPart, rArc] at hS
    refine then_n ?_
    refine cond_b hS rfl (fun hc4 => ?_) (fun hc4 => ?_)
    ·skip
     simp at hc4
    refine wp_skip (then_n (wp_seq ?_))
    refine region_q hS
      (cF rfl (oM .t) r1 trivial
      (cF rfl (oM .t) r1 trivial
      (cF rfl (oP (arcs24_c q2 (by omega)) Tryd.func33 (Args.one .t)) r1 trivial
      (cF rfl (oP (round23_c (roomN n) q2 (roomN_le n) (by omega)) Tryd.func32 (Args.two .t .t)) r2 trivial
      (cF rfl (oN .t) r1 trivial
      Chain.nil)))))
      hB ?_
    clear hS; intro a w F hS
    obtain ⟨F, hS⟩ := hS.nm [44, 43, 42, 14, 13, 8, 7, 6, 5, 4] [61, 9, 0] rfl rfl
    try dsimp only [rPair, rDeed4, rInt, rRow, rPart, rArc] at hS
    refine then_n (wp_seq ?_)
    refine region_q hS
      (cF rfl (oN (.ci (by kernel_rfl))) trivial trivial
      Chain.nil)
      hB ?_
    clear hS; intro a w F hS
    obtain ⟨F, hS⟩ := hS.nm [44, 43, 42, 15, 14, 13, 8, 7, 6, 5, 4] [61, 9, 0] rfl rfl
    try dsimp only [rPair, rDeed4, rInt, rRow, rPart, rArc] at hS
    refine then_n (wp_block ?_)
    refine loop_keep (σ := Nat) [4, 5, 6, 7, 8, 13, 14, 42, 43, 44] [0, 9, 61] (fun s => [(15, .pv (.int .i64 ((s : Int) - 1)))]) (fun s => []) (fun s => s ≤ (roomN n) + 2) (fun s => (roomN n) + 2 - s) (0) hS ⟨rfl, rfl, rfl, rfl, rfl, rfl, rfl, rfl, rfl, rfl, rfl, trivial⟩ ⟨rfl, rfl, rfl, trivial⟩ (Nat.zero_le _) ?_
    clear hS; intro k a w F hC hS
    try dsimp only at hC
    obtain ⟨F, hS⟩ := hS.nm [44, 43, 42, 15, 14, 13, 8, 7, 6, 5, 4] [61, 9, 0] rfl rfl
    try dsimp only at hS
    have hk : k ≤ (roomN n) + 2 := hC
    have hrm := roomN_le n
    refine wp_seq (wp_seq ?_)
    refine region_q hS
      (cF rfl (oM .t) r1 trivial
      (cF rfl (oM .t) r1 trivial
      (cF rfl (o_leq .t .t) r2 trivial
      Chain.nil)))
      hB ?_
    clear hS; intro a w F hS
    obtain ⟨F, hS⟩ := hS.nm [87, 44, 43, 42, 15, 14, 13, 8, 7, 6, 5, 4] [61, 9, 0] rfl rfl
    try dsimp only [rPair, rDeed4, rInt, rRow, rPart, rArc] at hS
    refine then_n ?_
    refine cond_b hS rfl (fun hc5 => ?_) (fun hc5 => ?_)
    ·skip
     have hkm : k < (roomN n) + 2 := by simp at hc5; omega
     have hrr : (((k : Int) - 1) ∈ roundP q2 (roomN n)) = (There (roomN n) ((k : Int) - 1) ∧ ((k : Int) - 1) ∈ reachQ q2 ((k : Int) - 1)) := propext mem_round
     refine wp_skip (then_n (wp_seq (wp_block (wp_seq ?_))))
     refine region_q hS
       (cF rfl (oM .t) r1 trivial
       (cF rfl (oM .t) r1 trivial
       (cF rfl (OpC.lend 61 [91] coH_read (oP (label_c (roomN n) q2 ((k : Int) - 1) (roomN_le n) hqn2 (by omega)) Tryd.func34 (Args.two .t .t)) ⟨rfl, trivial, trivial⟩ free_ib trivial (by rfl)) r2 r1
       (cF rfl (oM .t) r1 trivial
       (cF rfl (o_extract .t rfl) r1 trivial
       (cF rfl (o_extract .t rfl) r1 trivial
       (cF rfl (oN .t) r1 trivial
       (cF rfl (oN .t) r1 trivial
       Chain.nil))))))))
       hB ?_
     clear hS; intro a w F hS
     obtain ⟨F, hS⟩ := hS.nm [44, 43, 42, 17, 16, 15, 14, 13, 8, 7, 6, 5, 4] [61, 9, 0] rfl rfl
     try dsimp only [rPair, rDeed4, rInt, rRow, rPart, rArc] at hS
     refine then_n (wp_seq ?_)
     refine region_q hS
       (cF rfl (oM .t) r1 trivial
       (cF rfl (oM .t) r1 trivial
       (cF rfl (oP (of25_c (partsQ (roomN n) q2) ((k : Int) - 1) (Nat.le_trans (partsP_len (roomN n) q2 (roomN n)) (by omega)) (fun p hp => part_nl (roomN_le n) hp)) Tryd.func35 (Args.two .t .t)) r2 trivial
       (cF rfl (oN .t) r1 trivial
       Chain.nil))))
       hB ?_
     clear hS; intro a w F hS
     obtain ⟨F, hS⟩ := hS.nm [44, 43, 42, 18, 17, 16, 15, 14, 13, 8, 7, 6, 5, 4] [61, 9, 0] rfl rfl
     try dsimp only [rPair, rDeed4, rInt, rRow, rPart, rArc] at hS
     rw [memB_of] at hS
     refine then_n (wp_seq ?_)
     refine region_seqN hS (by kernel_rfl)
       (cG rfl (oM .t) r1 trivial
       (cG rfl (oM .t) r1 trivial
       (cG rfl (oM .t) r1 trivial
       (cG rfl (oP (there25_c (roomN n) ((k : Int) - 1)) Tryd.func36 (Args.two .t .t)) r2 trivial
       (cG rfl (o_neqB Tryd.underlying4 .t .t) r2 trivial
       (cG rfl (oM .t) r1 trivial
       (ChainN.cons (Cert.cond rfl rfl (fun h => o_move .t (by rfl))) r2 trivial
       (ChainN.cons (Cert.cond rfl rfl (fun h => o_move (.w h) (by rfl))) r2 trivial
       (ChainN.cons (Cert.cond2 rfl rfl (fun h => o_move .t (by rfl))) r2 trivial
       (ChainN.cons (Cert.cond2 rfl rfl (fun h => o_move .t (by rfl))) r2 trivial
       (ChainN.cons (Cert.cond2 rfl rfl (fun h => o_indexAddr_sl (sz := 1) (.mk Tryd.underlying30 (by kernel_rfl)) (by intro x; rfl) (.w h) (.ci (by kernel_rfl)) (by decide) (by have h9 : There (roomN n) ((k : Int) - 1) := of_decide_eq_true h.2; have := compQ_pos (q := q2) h9; unfold memB; rw [if_pos h9]; omega))) r2 trivial
       (ChainN.cons (Cert.cond2 rfl rfl (fun h => o_load_ref (ag := false) (sz := 1) (.w h) (by kernel_rfl) (by kernel_rfl) (by kernel_rfl))) r2 trivial
       (ChainN.cons (Cert.cond2 rfl rfl (fun h => o_neq (.w h) (.w h))) r3 trivial
       (ChainN.cons (Cert.cond rfl rfl (fun h => o_and2 (.w h) (.wc h))) r3 trivial
       (cG rfl (o_or2 .t .t) r2 trivial
       (cG rfl (oM .t) r1 trivial
       (ChainN.cons (Cert.cond rfl rfl (fun h => o_move .t (by rfl))) r2 trivial
       (ChainN.cons (Cert.cond rfl rfl (fun h => o_not (.w h))) r2 trivial
       (ChainN.cons (Cert.cond rfl rfl (fun h => o_move (.w h) (by rfl))) r2 trivial
       (ChainN.cons (Cert.cond2 rfl rfl (fun h => o_move .t (by rfl))) r2 trivial
       (ChainN.cons (Cert.cond2 rfl rfl (fun h => o_neq (.w h) (.ci (by kernel_rfl)))) r2 trivial
       (ChainN.cons (Cert.cond rfl rfl (fun h => o_and2 (.w h) (.wc h))) r3 trivial
       (cG rfl (o_or2 .t .t) r2 trivial
       (cG rfl (oM .t) r1 trivial
       (ChainN.norm [(4, _), (5, _), (6, _), (7, _), (8, _), (13, _), (14, _), (15, _), (18, _), (42, _), (43, _), (44, _), (122, _)] [(0, _), (9, _), (61, _)] ⟨rfl, rfl, rfl, rfl, rfl, rfl, rfl, rfl, rfl, rfl, rfl, rfl, rfl, trivial⟩ r3
       (ChainN.cons (Cert.cond rfl rfl (fun h => o_move .t (by rfl))) r2 trivial
       (ChainN.cons (Cert.cond rfl rfl (fun h => o_move .t (by rfl))) r2 trivial
       (ChainN.cons (Cert.condR rfl rfl (by rfl) (fun h => o_callG1 61 (membersG_c (.pointer (some ⟨b1, 0, none⟩)) (roomN n) q2 q02 ((k : Int) - 1) (roomN_le n) hqn2 (by omega)) Tryd.func37 rfl (by kernel_rfl) (Args.two (.w h) (.w h)))) r3 r1
       (ChainN.cons (Cert.cond rfl rfl (fun h => o_move .t (by rfl))) r2 trivial
       (ChainN.cons (Cert.cond rfl rfl (fun h => o_callP (sameInts_c (memB (roomN n) q2 ((k : Int) - 1)) (memB (roomN n) q2 ((k : Int) - 1))) Tryd.func18 rfl (by kernel_rfl) (Args.two (.w h) (.w h)))) r3 trivial
       (ChainN.cons (Cert.cond rfl rfl (fun h => o_not (.w h))) r2 trivial
       (cG rfl (o_or2 .t .t) r2 trivial
       (cG rfl (oM .t) r1 trivial
       (ChainN.cons (Cert.cond rfl rfl (fun h => o_move .t (by rfl))) r2 trivial
       (ChainN.cons (Cert.cond rfl rfl (fun h => o_move .t (by rfl))) r2 trivial
       (ChainN.cons (Cert.cond rfl rfl (fun h => OpC.lend 61 [131] coH_read (oP (cround_c (roomN n) q2 ((k : Int) - 1)) Tryd.func38 (Args.two (.w h) (.w h))) ⟨rfl, trivial, trivial⟩ (.pv (fun _ _ _ _ h => h)) trivial (by rfl))) r3 r1
       (ChainN.cons (Cert.cond rfl rfl (fun h => o_move .t (by rfl))) r2 trivial
       (ChainN.cons (Cert.cond rfl rfl (fun h => o_move .t (by rfl))) r2 trivial
       (ChainN.cons (Cert.cond rfl rfl (fun h => o_callP (in_c (roundP q2 (roomN n)) ((k : Int) - 1) (by have := roundP_len q2 (roomN n); omega)) Tryd.func22 rfl (by kernel_rfl) (Args.two (.w h) (.w h)))) r3 trivial
       (ChainN.cons (Cert.cond rfl rfl (fun h => o_neqB Tryd.underlying4 (.w h) (.w h))) r3 trivial
       (cG rfl (o_or2 .t .t) r2 trivial
       ChainN.nil)))))))))))))))))))))))))))))))))))))))))
       (by kernel_rfl) (by rw [hB]; kernel_rfl) ?_
     clear hS; intro a w F hS
     obtain ⟨F, hS⟩ := hS.nm [138, 44, 43, 42, 15, 14, 13, 8, 7, 6, 5, 4] [61, 9, 0] rfl rfl
     try dsimp only [List.map, xD, xE, xT, xU, ldSF, rPair, rDeed4, rInt, rRow, rPart, rArc] at hS
     try simp only [Int.toNat_natCast] at hS
     refine then_n ?_
     refine cond_b hS rfl (fun hc6 => ?_) (fun hc6 => ?_)
     ·skip
      by_cases ht : There (roomN n) ((k : Int) - 1)
      · rw [decide_eq_true ht] at hc6
        unfold labB memB reachB labQ at hc6
        simp only [if_pos ht] at hc6
        simp [hrr] at hc6
      · simp [labB, memB, ht, hrr, reachB] at hc6
     refine wp_skip (block_n (then_n ?_))
     refine region_q hS
       (cF rfl (oM .t) r1 trivial
       (cF rfl (o_add .t (.ci (by kernel_rfl))) r1 trivial
       (cF rfl (oN .t) r1 trivial
       Chain.nil)))
       hB ?_
     clear hS; intro a w F hS
     obtain ⟨F, hS⟩ := hS.nm [44, 43, 42, 15, 14, 13, 8, 7, 6, 5, 4] [61, 9, 0] rfl rfl
     try dsimp only [rPair, rDeed4, rInt, rRow, rPart, rArc] at hS
     refine then_n ?_
     replace hS := hS.ent (i := 15) (s' := .pv (.int .i64 (((k + 1 : Nat) : Int) - 1))) rfl (.int (by rw [wrap_i64 (by omega)]; omega))
     obtain ⟨F, hS⟩ := hS.nm [44, 43, 42, 14, 13, 8, 7, 6, 5, 4, 15] [61, 9, 0] rfl rfl
     exact ⟨(k + 1), F, (by show k + 1 ≤ _; omega), hS, (by show (roomN n) + 2 - (k + 1) < (roomN n) + 2 - k; omega)⟩
    refine wp_exit (then_x (then_x (block_x (block_n (then_n ?_)))))
    refine region_q hS
      (cF rfl (o_add .t (.ci (by kernel_rfl))) r1 trivial
      (cF rfl (oM .t) r1 trivial
      Chain.nil))
      hB ?_
    clear hS; intro a w F hS
    obtain ⟨F, hS⟩ := hS.nm [44, 43, 42, 8, 7, 6, 5, 4] [61, 9, 0] rfl rfl
    try dsimp only [rPair, rDeed4, rInt, rRow, rPart, rArc] at hS
    refine then_n ?_
    replace hS := hS.ent (i := 44) (s' := .pv (.int .i64 ((i + 1 : Nat) : Int))) rfl (.int (wrap_succ (by omega)))
    obtain ⟨F, hS⟩ := hS.nm [43, 42, 6, 5, 4, 8, 7, 44] [9, 0, 61] rfl rfl
    exact ⟨((i + 1), (q2), (q02)), F, ⟨by omega, ⟨by omega, hqn2, hqn02⟩⟩, hS, by omega⟩
   have hkd : ¬ (Go.Gm.nth l i).kind = 2 := by simpa using hc3
   have hw2 : q0 = q02 := by rw [hq02]; unfold wasC; rw [if_neg hkd]
   replace hS := hS.ent (i := 8) (s' := .pv (.sl rPart (partsQ (roomN n) q02))) rfl (Ent.eqSl (by rw [← hw2]))
   refine wp_skip (then_n (wp_seq (wp_seq ?_)))
   refine region_q hS
     (cF rfl (oM .t) r1 trivial
     (cF rfl (OpC.lend 61 [68] coH_read (oP (coNodes_c (roomN n) q2) Tryd.func29 (Args.one .t)) ⟨rfl, trivial⟩ (.pv (fun _ _ _ _ h => h)) trivial (by rfl)) r1 r1
     (cF rfl (oM .t) r1 trivial
     (cF rfl (o_neq .t .t) r2 trivial
     (cF rfl (oM .t) r1 trivial
     (Chain.cons (Cert.cond rfl rfl (fun h => o_move .t (by rfl))) r2 trivial
     (Chain.cons (Cert.condR rfl rfl (by rfl) (fun h => o_callG1 61 (cstale_c b1 (roomN n) q2 q02) Tryd.func30 rfl (by kernel_rfl) (Args.one (.w h)))) r2 r1
     (Chain.cons (Cert.cond rfl rfl (fun h => o_move .t (by rfl))) r2 trivial
     (Chain.cons (Cert.cond rfl rfl (fun h => o_move .t (by rfl))) r2 trivial
     (Chain.cons (Cert.cond rfl rfl (fun h => o_callP (stale25_c (partsQ (roomN n) q02) (partsQ (roomN n) q2) (Nat.le_trans (partsP_len (roomN n) q02 (roomN n)) (by omega)) (Nat.le_trans (partsP_len (roomN n) q2 (roomN n)) (by omega)) (fun p hp => part_ne hp)) Tryd.func31 rfl (by kernel_rfl) (Args.two (.w h) (.w h)))) r3 trivial
     (Chain.cons (Cert.cond rfl rfl (fun h => o_callP (sameInts_c (staleQ (roomN n) q2 q02) (staleQ (roomN n) q2 q02)) Tryd.func18 rfl (by kernel_rfl) (Args.two (.w h) (.conv (.w h) (Ent.eqSl (stale_doc hqn2 hqn02)))))) r3 trivial
     (Chain.cons (Cert.cond rfl rfl (fun h => o_not (.w h))) r2 trivial
     (cF rfl (o_or2 .t .t) r2 trivial
     Chain.nil)))))))))))))
     hB ?_
   clear hS; intro a w F hS
   obtain ⟨F, hS⟩ := hS.nm [80, 44, 43, 42, 13, 8, 7, 6, 5, 4] [61, 9, 0] rfl rfl
   try dsimp only [rPair, rDeed4, rInt, rRow, rPart, rArc] at hS
   refine then_n ?_
   refine cond_b hS rfl (fun hc7 => ?_) (fun hc7 => ?_)
   ·skip
    simp at hc7
   refine wp_skip (then_n (wp_seq ?_))
   refine region_q hS
     (cF rfl (oM .t) r1 trivial
     (cF rfl (oM .t) r1 trivial
     (cF rfl (oP (arcs24_c q2 (by omega)) Tryd.func33 (Args.one .t)) r1 trivial
     (cF rfl (oP (round23_c (roomN n) q2 (roomN_le n) (by omega)) Tryd.func32 (Args.two .t .t)) r2 trivial
     (cF rfl (oN .t) r1 trivial
     Chain.nil)))))
     hB ?_
   clear hS; intro a w F hS
   obtain ⟨F, hS⟩ := hS.nm [44, 43, 42, 14, 13, 8, 7, 6, 5, 4] [61, 9, 0] rfl rfl
   try dsimp only [rPair, rDeed4, rInt, rRow, rPart, rArc] at hS
   refine then_n (wp_seq ?_)
   refine region_q hS
     (cF rfl (oN (.ci (by kernel_rfl))) trivial trivial
     Chain.nil)
     hB ?_
   clear hS; intro a w F hS
   obtain ⟨F, hS⟩ := hS.nm [44, 43, 42, 15, 14, 13, 8, 7, 6, 5, 4] [61, 9, 0] rfl rfl
   try dsimp only [rPair, rDeed4, rInt, rRow, rPart, rArc] at hS
   refine then_n (wp_block ?_)
   refine loop_keep (σ := Nat) [4, 5, 6, 7, 8, 13, 14, 42, 43, 44] [0, 9, 61] (fun s => [(15, .pv (.int .i64 ((s : Int) - 1)))]) (fun s => []) (fun s => s ≤ (roomN n) + 2) (fun s => (roomN n) + 2 - s) (0) hS ⟨rfl, rfl, rfl, rfl, rfl, rfl, rfl, rfl, rfl, rfl, rfl, trivial⟩ ⟨rfl, rfl, rfl, trivial⟩ (Nat.zero_le _) ?_
   clear hS; intro k a w F hC hS
   try dsimp only at hC
   obtain ⟨F, hS⟩ := hS.nm [44, 43, 42, 15, 14, 13, 8, 7, 6, 5, 4] [61, 9, 0] rfl rfl
   try dsimp only at hS
   have hk : k ≤ (roomN n) + 2 := hC
   have hrm := roomN_le n
   refine wp_seq (wp_seq ?_)
   refine region_q hS
     (cF rfl (oM .t) r1 trivial
     (cF rfl (oM .t) r1 trivial
     (cF rfl (o_leq .t .t) r2 trivial
     Chain.nil)))
     hB ?_
   clear hS; intro a w F hS
   obtain ⟨F, hS⟩ := hS.nm [87, 44, 43, 42, 15, 14, 13, 8, 7, 6, 5, 4] [61, 9, 0] rfl rfl
   try dsimp only [rPair, rDeed4, rInt, rRow, rPart, rArc] at hS
   refine then_n ?_
   refine cond_b hS rfl (fun hc8 => ?_) (fun hc8 => ?_)
   ·skip
    have hkm : k < (roomN n) + 2 := by simp at hc8; omega
    have hrr : (((k : Int) - 1) ∈ roundP q2 (roomN n)) = (There (roomN n) ((k : Int) - 1) ∧ ((k : Int) - 1) ∈ reachQ q2 ((k : Int) - 1)) := propext mem_round
    refine wp_skip (then_n (wp_seq (wp_block (wp_seq ?_))))
    refine region_q hS
      (cF rfl (oM .t) r1 trivial
      (cF rfl (oM .t) r1 trivial
      (cF rfl (OpC.lend 61 [91] coH_read (oP (label_c (roomN n) q2 ((k : Int) - 1) (roomN_le n) hqn2 (by omega)) Tryd.func34 (Args.two .t .t)) ⟨rfl, trivial, trivial⟩ free_ib trivial (by rfl)) r2 r1
      (cF rfl (oM .t) r1 trivial
      (cF rfl (o_extract .t rfl) r1 trivial
      (cF rfl (o_extract .t rfl) r1 trivial
      (cF rfl (oN .t) r1 trivial
      (cF rfl (oN .t) r1 trivial
      Chain.nil))))))))
      hB ?_
    clear hS; intro a w F hS
    obtain ⟨F, hS⟩ := hS.nm [44, 43, 42, 17, 16, 15, 14, 13, 8, 7, 6, 5, 4] [61, 9, 0] rfl rfl
    try dsimp only [rPair, rDeed4, rInt, rRow, rPart, rArc] at hS
    refine then_n (wp_seq ?_)
    refine region_q hS
      (cF rfl (oM .t) r1 trivial
      (cF rfl (oM .t) r1 trivial
      (cF rfl (oP (of25_c (partsQ (roomN n) q2) ((k : Int) - 1) (Nat.le_trans (partsP_len (roomN n) q2 (roomN n)) (by omega)) (fun p hp => part_nl (roomN_le n) hp)) Tryd.func35 (Args.two .t .t)) r2 trivial
      (cF rfl (oN .t) r1 trivial
      Chain.nil))))
      hB ?_
    clear hS; intro a w F hS
    obtain ⟨F, hS⟩ := hS.nm [44, 43, 42, 18, 17, 16, 15, 14, 13, 8, 7, 6, 5, 4] [61, 9, 0] rfl rfl
    try dsimp only [rPair, rDeed4, rInt, rRow, rPart, rArc] at hS
    rw [memB_of] at hS
    refine then_n (wp_seq ?_)
    refine region_seqN hS (by kernel_rfl)
      (cG rfl (oM .t) r1 trivial
      (cG rfl (oM .t) r1 trivial
      (cG rfl (oM .t) r1 trivial
      (cG rfl (oP (there25_c (roomN n) ((k : Int) - 1)) Tryd.func36 (Args.two .t .t)) r2 trivial
      (cG rfl (o_neqB Tryd.underlying4 .t .t) r2 trivial
      (cG rfl (oM .t) r1 trivial
      (ChainN.cons (Cert.cond rfl rfl (fun h => o_move .t (by rfl))) r2 trivial
      (ChainN.cons (Cert.cond rfl rfl (fun h => o_move (.w h) (by rfl))) r2 trivial
      (ChainN.cons (Cert.cond2 rfl rfl (fun h => o_move .t (by rfl))) r2 trivial
      (ChainN.cons (Cert.cond2 rfl rfl (fun h => o_move .t (by rfl))) r2 trivial
      (ChainN.cons (Cert.cond2 rfl rfl (fun h => o_indexAddr_sl (sz := 1) (.mk Tryd.underlying30 (by kernel_rfl)) (by intro x; rfl) (.w h) (.ci (by kernel_rfl)) (by decide) (by have h9 : There (roomN n) ((k : Int) - 1) := of_decide_eq_true h.2; have := compQ_pos (q := q2) h9; unfold memB; rw [if_pos h9]; omega))) r2 trivial
      (ChainN.cons (Cert.cond2 rfl rfl (fun h => o_load_ref (ag := false) (sz := 1) (.w h) (by kernel_rfl) (by kernel_rfl) (by kernel_rfl))) r2 trivial
      (ChainN.cons (Cert.cond2 rfl rfl (fun h => o_neq (.w h) (.w h))) r3 trivial
      (ChainN.cons (Cert.cond rfl rfl (fun h => o_and2 (.w h) (.wc h))) r3 trivial
      (cG rfl (o_or2 .t .t) r2 trivial
      (cG rfl (oM .t) r1 trivial
      (ChainN.cons (Cert.cond rfl rfl (fun h => o_move .t (by rfl))) r2 trivial
      (ChainN.cons (Cert.cond rfl rfl (fun h => o_not (.w h))) r2 trivial
      (ChainN.cons (Cert.cond rfl rfl (fun h => o_move (.w h) (by rfl))) r2 trivial
      (ChainN.cons (Cert.cond2 rfl rfl (fun h => o_move .t (by rfl))) r2 trivial
      (ChainN.cons (Cert.cond2 rfl rfl (fun h => o_neq (.w h) (.ci (by kernel_rfl)))) r2 trivial
      (ChainN.cons (Cert.cond rfl rfl (fun h => o_and2 (.w h) (.wc h))) r3 trivial
      (cG rfl (o_or2 .t .t) r2 trivial
      (cG rfl (oM .t) r1 trivial
      (ChainN.norm [(4, _), (5, _), (6, _), (7, _), (8, _), (13, _), (14, _), (15, _), (18, _), (42, _), (43, _), (44, _), (122, _)] [(0, _), (9, _), (61, _)] ⟨rfl, rfl, rfl, rfl, rfl, rfl, rfl, rfl, rfl, rfl, rfl, rfl, rfl, trivial⟩ r3
      (ChainN.cons (Cert.cond rfl rfl (fun h => o_move .t (by rfl))) r2 trivial
      (ChainN.cons (Cert.cond rfl rfl (fun h => o_move .t (by rfl))) r2 trivial
      (ChainN.cons (Cert.condR rfl rfl (by rfl) (fun h => o_callG1 61 (membersG_c (.pointer (some ⟨b1, 0, none⟩)) (roomN n) q2 q02 ((k : Int) - 1) (roomN_le n) hqn2 (by omega)) Tryd.func37 rfl (by kernel_rfl) (Args.two (.w h) (.w h)))) r3 r1
      (ChainN.cons (Cert.cond rfl rfl (fun h => o_move .t (by rfl))) r2 trivial
      (ChainN.cons (Cert.cond rfl rfl (fun h => o_callP (sameInts_c (memB (roomN n) q2 ((k : Int) - 1)) (memB (roomN n) q2 ((k : Int) - 1))) Tryd.func18 rfl (by kernel_rfl) (Args.two (.w h) (.w h)))) r3 trivial
      (ChainN.cons (Cert.cond rfl rfl (fun h => o_not (.w h))) r2 trivial
      (cG rfl (o_or2 .t .t) r2 trivial
      (cG rfl (oM .t) r1 trivial
      (ChainN.cons (Cert.cond rfl rfl (fun h => o_move .t (by rfl))) r2 trivial
      (ChainN.cons (Cert.cond rfl rfl (fun h => o_move .t (by rfl))) r2 trivial
      (ChainN.cons (Cert.cond rfl rfl (fun h => OpC.lend 61 [131] coH_read (oP (cround_c (roomN n) q2 ((k : Int) - 1)) Tryd.func38 (Args.two (.w h) (.w h))) ⟨rfl, trivial, trivial⟩ (.pv (fun _ _ _ _ h => h)) trivial (by rfl))) r3 r1
      (ChainN.cons (Cert.cond rfl rfl (fun h => o_move .t (by rfl))) r2 trivial
      (ChainN.cons (Cert.cond rfl rfl (fun h => o_move .t (by rfl))) r2 trivial
      (ChainN.cons (Cert.cond rfl rfl (fun h => o_callP (in_c (roundP q2 (roomN n)) ((k : Int) - 1) (by have := roundP_len q2 (roomN n); omega)) Tryd.func22 rfl (by kernel_rfl) (Args.two (.w h) (.w h)))) r3 trivial
      (ChainN.cons (Cert.cond rfl rfl (fun h => o_neqB Tryd.underlying4 (.w h) (.w h))) r3 trivial
      (cG rfl (o_or2 .t .t) r2 trivial
      ChainN.nil)))))))))))))))))))))))))))))))))))))))))
      (by kernel_rfl) (by rw [hB]; kernel_rfl) ?_
    clear hS; intro a w F hS
    obtain ⟨F, hS⟩ := hS.nm [138, 44, 43, 42, 15, 14, 13, 8, 7, 6, 5, 4] [61, 9, 0] rfl rfl
    try dsimp only [List.map, xD, xE, xT, xU, ldSF, rPair, rDeed4, rInt, rRow, rPart, rArc] at hS
    try simp only [Int.toNat_natCast] at hS
    refine then_n ?_
    refine cond_b hS rfl (fun hc9 => ?_) (fun hc9 => ?_)
    ·skip
     by_cases ht : There (roomN n) ((k : Int) - 1)
     · rw [decide_eq_true ht] at hc9
       unfold labB memB reachB labQ at hc9
       simp only [if_pos ht] at hc9
       simp [hrr] at hc9
     · simp [labB, memB, ht, hrr, reachB] at hc9
    refine wp_skip (block_n (then_n ?_))
    refine region_q hS
      (cF rfl (oM .t) r1 trivial
      (cF rfl (o_add .t (.ci (by kernel_rfl))) r1 trivial
      (cF rfl (oN .t) r1 trivial
      Chain.nil)))
      hB ?_
    clear hS; intro a w F hS
    obtain ⟨F, hS⟩ := hS.nm [44, 43, 42, 15, 14, 13, 8, 7, 6, 5, 4] [61, 9, 0] rfl rfl
    try dsimp only [rPair, rDeed4, rInt, rRow, rPart, rArc] at hS
    refine then_n ?_
    replace hS := hS.ent (i := 15) (s' := .pv (.int .i64 (((k + 1 : Nat) : Int) - 1))) rfl (.int (by rw [wrap_i64 (by omega)]; omega))
    obtain ⟨F, hS⟩ := hS.nm [44, 43, 42, 14, 13, 8, 7, 6, 5, 4, 15] [61, 9, 0] rfl rfl
    exact ⟨(k + 1), F, (by show k + 1 ≤ _; omega), hS, (by show (roomN n) + 2 - (k + 1) < (roomN n) + 2 - k; omega)⟩
   refine wp_exit (then_x (then_x (block_x (block_n (then_n ?_)))))
   refine region_q hS
     (cF rfl (o_add .t (.ci (by kernel_rfl))) r1 trivial
     (cF rfl (oM .t) r1 trivial
     Chain.nil))
     hB ?_
   clear hS; intro a w F hS
   obtain ⟨F, hS⟩ := hS.nm [44, 43, 42, 8, 7, 6, 5, 4] [61, 9, 0] rfl rfl
   try dsimp only [rPair, rDeed4, rInt, rRow, rPart, rArc] at hS
   refine then_n ?_
   replace hS := hS.ent (i := 44) (s' := .pv (.int .i64 ((i + 1 : Nat) : Int))) rfl (.int (wrap_succ (by omega)))
   obtain ⟨F, hS⟩ := hS.nm [43, 42, 6, 5, 4, 8, 7, 44] [9, 0, 61] rfl rfl
   exact ⟨((i + 1), (q2), (q02)), F, ⟨by omega, ⟨by omega, hqn2, hqn02⟩⟩, hS, by omega⟩
  have hil : i = l.length := by simp at hc1; omega
  refine wp_exit (then_x (then_x (block_x (then_n (wp_seq ?_)))))
  refine region_q hS
    (cF rfl (o_callPg 9 (lives25_c) Tryd.func25 rfl (by kernel_rfl) Args.nil) trivial r1
    (cF rfl (oN .t) r1 trivial
    Chain.nil))
    hB ?_
  clear hS; intro a w F hS
  obtain ⟨F, hS⟩ := hS.nm [4] [61, 9, 0] rfl rfl
  try dsimp only [rPair, rDeed4, rInt, rRow, rPart, rArc] at hS
  refine then_n (wp_ret ?_)
  refine ret_P hfr hS rfl (.tmp rfl .nil) (.one (.bool (by first | rfl | simp)))

end Go.Proofs.YtpahapjcdldodaaDoor
