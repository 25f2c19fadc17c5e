/- ClosurePlays. No condition beyond those that each theorem says. -/
import Derived.Test.YtpahapjcdldodaaDoorCkD
namespace Go.Proofs.YtpahapjcdldodaaDoor
open Go Go.Gm
set_option linter.unusedVariables false
set_option linter.unusedSimpArgs false
set_option maxHeartbeats 4000000
set_option maxRecDepth 8000


theorem stepQ_kind0 {n : Nat} {q : List PairD} {d : Deed4} (h : d.kind = 0) : stepQ n q ⟨0, d.u, d.v⟩ = stepQ n q d := by cases d; subst h; rfl
theorem stepQ_kind1 {n : Nat} {q : List PairD} {d : Deed4} (h : ¬ d.kind = 0) : stepQ n q ⟨1, d.u, d.v⟩ = stepQ n q d := by
  unfold stepQ
  simp only [h, if_false, show ¬ (1 : Int) = 0 by decide]
theorem lastD_kind0 {n : Nat} {q : List PairD} {last : List Int} {d : Deed4} (h : d.kind = 0) : lastD n q last ⟨0, d.u, d.v⟩ = lastD n q last d := by unfold lastD; rw [stepQ_kind0 h]
theorem lastD_kind1 {n : Nat} {q : List PairD} {last : List Int} {d : Deed4} (h : ¬ d.kind = 0) : lastD n q last ⟨1, d.u, d.v⟩ = lastD n q last d := by unfold lastD; rw [stepQ_kind1 h]
theorem stepQ_same {n : Nat} {q : List PairD} {d : Deed4} (h : ¬ (stepQ n q d).2 = 0) : (stepQ n q d).1 = q := by
  unfold stepQ at *
  split at h
  · rename_i c
    rw [if_pos c]
    split at h
    · exact absurd rfl h
    · rename_i c1
      rw [if_neg c1]
      split at h
      · rename_i c2; rw [if_pos c2]
      · exact absurd rfl h
  · rename_i c; rw [if_neg c]
theorem stepQ_len (n : Nat) (q : List PairD) (d : Deed4) : (stepQ n q d).1.length ≤ q.length + 1 := by
  unfold stepQ
  split
  · split
    · simp
    · split
      · exact Nat.le_succ _
      · exact Nat.le_trans List.length_erase_le (Nat.le_succ _)
  · exact Nat.le_succ _
theorem stepQ_in {n : Nat} {q : List PairD} {d : Deed4} (h : InN n q) : InN n (stepQ n q d).1 := by
  unfold stepQ
  split
  · rename_i c
    split
    · exact h.add c.1 c.2
    · split
      · exact h
      · exact h.erase
  · exact h
theorem arcs_all {n : Nat} {q : List PairD} (h : InN n q) (u v : Int) : arcsN n q u v = ((q.count ⟨u, v⟩ : Nat) : Int) := by
  unfold arcsN
  split
  · rfl
  · rename_i c
    have : q.count ⟨u, v⟩ = 0 := List.count_eq_zero.2 fun hm => c (h _ hm)
    rw [this]; rfl

theorem cplays_c (n : Int) (l : List Deed4) : FnPg Tryd.prog tabP tabV 3 [.int .i64 n, .sl rDeed4 l] (.bool true) := by
  refine FnPg.mk Tryd.func3 rfl Tryd.ntmps3 rfl ?_
  intro B a w F hB hfr hS
  have hll := Sat.lenSl hS (i := 1) rfl
  refine wp_seq ?_
  refine region_q hS
    (cF rfl (oN .cb) trivial trivial
    Chain.nil)
    hB ?_
  clear hS; intro a w F hS
  obtain ⟨F, hS⟩ := hS.nm [4, 1, 0] [9, 0] rfl rfl
  try dsimp only [rPair, rDeed4, rInt, rRow] at hS
  refine then_n (wp_seq ?_)
  replace hS := hS.dupG 9 61 rfl rfl
  refine region_q hS
    (cF rfl (oM .t) r1 trivial
    (cF rfl (o_callNg 61 (cnew_c n) Tryd.func7 rfl (by kernel_rfl) (Args.one .t) PV.ptr_one) r1 r1
    (cF rfl (oN .t) r1 trivial
    Chain.nil)))
    hB ?_
  clear hS; intro a w F hS
  replace hS := hS.sub
  obtain ⟨F, hS⟩ := hS.nm [5, 4, 1, 0] [61, 9, 0] rfl rfl
  try dsimp only [RS.sub, SF.sub, CF.sub, csub, Anc.sub, List.map, rPair, rDeed4, rInt, rRow] at hS
  generalize Act.tau a 19 = v19 at hS
  obtain ⟨_, _, _, ho⟩ := hS.obGet 61 rfl
  obtain ⟨b1, rfl⟩ := clH_ptr ho
  clear ho
  replace hS := hS.turn 61 rfl (r' := RS.hp (clH (.pointer (some ⟨b1, 0, none⟩)) (roomN n) [] [])) (fun _ _ _ _ h => h)
  obtain ⟨F, hS⟩ := hS.nm [5, 4, 1, 0] [61, 9, 0] rfl rfl
  refine then_n (wp_seq (wp_seq ?_))
  refine region_q hS
    (cF rfl (oM .t) r1 trivial
    (cF rfl (o_nil_eql _ Tryd.underlying23 rfl .t) r1 trivial
    (cF rfl (oM .t) r1 trivial
    (Chain.cons (Cert.cond rfl rfl (fun h => o_move .t (by rfl))) r2 trivial
    (Chain.cons (Cert.cond rfl rfl (fun h => o_gtr (.w h) (.ci (by kernel_rfl)))) r2 trivial
    (cF rfl (o_or2 .t .t) r2 trivial
    (cF rfl (oM .t) r1 trivial
    (Chain.cons (Cert.cond rfl rfl (fun h => o_move .t (by rfl))) r2 trivial
    (Chain.cons (Cert.cond rfl rfl (fun h => o_len_sl Tryd.underlying22 (.w h))) r2 trivial
    (Chain.cons (Cert.cond rfl rfl (fun h => o_gtr (.w h) (.ci (by kernel_rfl)))) r2 trivial
    (cF rfl (o_or2 .t .t) r2 trivial
    Chain.nil)))))))))))
    hB ?_
  clear hS; intro a w F hS
  obtain ⟨F, hS⟩ := hS.nm [30, 5, 4, 1, 0] [61, 9, 0] rfl rfl
  try dsimp only [rPair, rDeed4, rInt, rRow] at hS
  refine then_n ?_
  refine cond_b hS rfl (fun hc0 => ?_) (fun hc0 => ?_)
  ·skip
   refine wp_seq ?_
   refine region_q hS
     (cF rfl (oM .t) r1 trivial
     (cF rfl (o_nil_neq _ Tryd.underlying23 rfl .t) r1 trivial
     (cF rfl (oM .t) r1 trivial
     (Chain.cons (Cert.cond rfl rfl (fun h => o_callPg 9 (lives_c) Tryd.func8 rfl (by kernel_rfl) Args.nil)) r1 r1
     (cF rfl (o_and2 .t .t) r2 trivial
     (cF rfl (oN .t) r1 trivial
     Chain.nil))))))
     hB ?_
   clear hS; intro a w F hS
   obtain ⟨F, hS⟩ := hS.nm [5, 4, 1, 0] [61, 9, 0] rfl rfl
   try dsimp only [rPair, rDeed4, rInt, rRow] at hS
   refine then_n (wp_ret (then_r ?_))
   refine ret_P hfr hS rfl (.tmp rfl .nil) (.one (.bool (by first | rfl | simp)))
  have hll2 : l.length ≤ 40 ∧ n ≤ 10 := by simp at hc0; omega
  refine wp_skip (then_n (wp_seq ?_))
  refine region_q hS
    (cF rfl (oM .t) r1 trivial
    (cF rfl (oP (room21_c _) Tryd.func9 (Args.one .t)) r1 trivial
    (cF rfl (oN .t) r1 trivial
    Chain.nil)))
    hB ?_
  clear hS; intro a w F hS
  obtain ⟨F, hS⟩ := hS.nm [6, 5, 4, 1] [61, 9, 0] rfl rfl
  try dsimp only [rPair, rDeed4, rInt, rRow] at hS
  refine then_n (wp_seq ?_)
  refine region_q hS
    (cF rfl (oN (.c rfl)) trivial trivial
    Chain.nil)
    hB ?_
  clear hS; intro a w F hS
  obtain ⟨F, hS⟩ := hS.nm [7, 6, 5, 4, 1] [61, 9, 0] rfl rfl
  try dsimp only [rPair, rDeed4, rInt, rRow] at hS
  refine then_n (wp_seq ?_)
  refine region_q hS
    (cF rfl (oM .t) r1 trivial
    (cF rfl (oM .t) r1 trivial
    (cF rfl (oP (rows24_c (roomN n) [] (roomN_le n) (by simp)) Tryd.func10 (Args.two .t (.conv .t (.nilSl)))) r2 trivial
    (cF rfl (oN .t) r1 trivial
    Chain.nil))))
    hB ?_
  clear hS; intro a w F hS
  obtain ⟨F, hS⟩ := hS.nm [8, 7, 6, 5, 4, 1] [61, 9, 0] rfl rfl
  try dsimp only [rPair, rDeed4, rInt, rRow] at hS
  refine then_n (wp_seq ?_)
  refine region_q hS
    (cF rfl (oN (.c rfl)) trivial trivial
    Chain.nil)
    hB ?_
  clear hS; intro a w F hS
  obtain ⟨F, hS⟩ := hS.nm [9, 8, 7, 6, 5, 4, 1] [61, 9, 0] rfl rfl
  try dsimp only [rPair, rDeed4, rInt, rRow] at hS
  refine then_n (wp_seq (wp_seq ?_))
  refine region_q hS
    (cF rfl (oM .t) r1 trivial
    (cF rfl (o_len_sl Tryd.underlying22 .t) r1 trivial
    (cF rfl (oM (.ci (by kernel_rfl))) trivial trivial
    Chain.nil)))
    hB ?_
  clear hS; intro a w F hS
  obtain ⟨F, hS⟩ := hS.nm [43, 42, 41, 9, 8, 7, 6, 5, 4] [61, 9, 0] rfl rfl
  try dsimp only [rPair, rDeed4, rInt, rRow] at hS
  refine then_n (wp_block ?_)
  replace hS := hS.ent (i := 7) (s' := .pv (.sl rPair [])) rfl .nilSl
  replace hS := hS.ent (i := 9) (s' := .pv (.sl rInt [])) rfl .nilSl
  refine loop_keep (σ := (Nat) × (List PairD) × (List Int)) [4, 5, 6, 41, 42] [0, 9] (fun s => [(43, .pv (.int .i64 (s.1 : Int))), (7, .pv (.sl rPair s.2.1)), (8, .pv (.sl rRow (rowsQ s.2.1 (roomN n)))), (9, .pv (.sl rInt s.2.2))]) (fun s => [(61, RS.hp (clH (.pointer (some ⟨b1, 0, none⟩)) (roomN n) s.2.1 s.2.2))]) (fun s => s.1 ≤ l.length ∧ (s.2.1.length ≤ s.1 ∧ InN (roomN n) s.2.1)) (fun s => l.length - s.1) ((0), ([]), ([])) hS ⟨rfl, rfl, rfl, rfl, rfl, rfl, rfl, rfl, rfl, trivial⟩ ⟨rfl, rfl, rfl, trivial⟩ ⟨Nat.zero_le _, ⟨Nat.le_refl 0, fun p hp => (by cases hp)⟩⟩ ?_
  clear hS; intro s a w F hC hS
  obtain ⟨i, q, la⟩ := s
  try dsimp only at hC
  obtain ⟨F, hS⟩ := hS.nm [43, 42, 41, 9, 8, 7, 6, 5, 4] [61, 9, 0] rfl rfl
  try dsimp only at hS
  obtain ⟨hi, hq⟩ := hC
  obtain ⟨hql, hqn⟩ := hq
  have hrm := roomN_le n
  refine wp_seq ?_
  refine region_q hS
    (cF rfl (o_lss .t .t) r2 trivial
    Chain.nil)
    hB ?_
  clear hS; intro a w F hS
  obtain ⟨F, hS⟩ := hS.nm [44, 43, 42, 41, 9, 8, 7, 6, 5, 4] [61, 9, 0] rfl rfl
  try dsimp only [rPair, rDeed4, rInt, rRow] at hS
  refine then_n (wp_seq ?_)
  refine cond_b hS rfl (fun hc1 => ?_) (fun hc1 => ?_)
  ·skip
   have hil : i < l.length := by simp at hc1; omega
   refine wp_skip (then_n (wp_seq (wp_block (wp_seq ?_))))
   refine region_q hS
     (cF rfl (o_indexAddr_sl (sz := 3) (.mk Tryd.underlying22 (by kernel_rfl)) (by intro x; rfl) .t .t (by omega) (by omega)) r2 trivial
     (cF rfl (oR true 3 .t) r1 trivial
     (cF rfl (oH [.int .i64 0, .int .i64 0, .int .i64 0] 101) trivial trivial
     (cF rfl (oA 3 101 .same .t) r2 r1
     Chain.nil))))
     hB ?_
   clear hS; intro a w F hS
   replace hS := hS.sub
   obtain ⟨F, hS⟩ := hS.nm [43, 42, 41, 11, 9, 8, 7, 6, 5, 4] [101, 61, 9, 0] rfl rfl
   try dsimp only [RS.sub, SF.sub, CF.sub, csub, Anc.sub, List.map, stCells, xL, xM, Nat.reduceAdd, xD, xE, xT, xU, xC, xN, zCF, ldSF, rPair, rDeed4, rInt, rRow] at hS
   generalize Act.tau a 11 = v11 at hS
   try simp only [Int.toNat_natCast] at hS
   refine then_n (wp_seq ?_)
   refine region_q hS
     (cF rfl (oM .t) r1 trivial
     (cF rfl (oM .t) r1 trivial
     (cF rfl (oL true 3 101 .is) r1 r1
     (cF rfl (oP (step24_c (roomN n) q (Go.Gm.nth l i) (by omega)) Tryd.func11 (Args.three .t .t (.pagg .t))) r3 trivial
     (cF rfl (oM .t) r1 trivial
     (cF rfl (o_extract .t rfl) r1 trivial
     (cF rfl (o_extract .t rfl) r1 trivial
     (cF rfl (oN .t) r1 trivial
     (cF rfl (oN .t) r1 trivial
     Chain.nil)))))))))
     hB ?_
   clear hS; intro a w F hS
   obtain ⟨F, hS⟩ := hS.nm [43, 42, 41, 13, 12, 11, 9, 8, 7, 6, 5, 4] [101, 61, 9, 0] rfl rfl
   try dsimp only [List.map, xD, xE, xT, xU, ldSF, rPair, rDeed4, rInt, rRow] at hS
   refine then_n (wp_seq ?_)
   refine region_q hS
     (cF rfl (oM .t) r1 trivial
     (cF rfl (oN .t) r1 trivial
     Chain.nil))
     hB ?_
   clear hS; intro a w F hS
   obtain ⟨F, hS⟩ := hS.nm [43, 42, 41, 13, 11, 9, 8, 7, 6, 5, 4] [101, 61, 9, 0] rfl rfl
   try dsimp only [rPair, rDeed4, rInt, rRow] at hS
   refine then_n (wp_seq ?_)
   refine region_q hS
     (cF rfl (oN (.ci (by kernel_rfl))) trivial trivial
     Chain.nil)
     hB ?_
   clear hS; intro a w F hS
   obtain ⟨F, hS⟩ := hS.nm [43, 42, 41, 13, 11, 9, 8, 7, 6, 5, 4] [101, 61, 9, 0] rfl rfl
   try dsimp only [rPair, rDeed4, rInt, rRow] at hS
   refine then_n (wp_seq (wp_seq ?_))
   refine region_q hS
     (cF rfl (oF 0 101 .is) r1 r1
     (cF rfl (oL false 1 101 .adr) r1 r1
     (cF rfl (o_eql .t (.ci (by kernel_rfl))) r1 trivial
     Chain.nil)))
     hB ?_
   clear hS; intro a w F hS
   obtain ⟨F, hS⟩ := hS.nm [57, 43, 42, 41, 13, 11, 9, 8, 7, 6, 5, 4] [101, 61, 9, 0] rfl rfl
   try dsimp only [List.map, xD, xE, xT, xU, ldSF, rPair, rDeed4, rInt, rRow] at hS
   refine then_n ?_
   refine cond_b hS rfl (fun hc2 => ?_) (fun hc2 => ?_)
   ·skip
    have hkd : (Go.Gm.nth l i).kind = 0 := by simpa using hc2
    refine region_q hS
      (cF rfl (oM .t) r1 trivial
      (cF rfl (oF 1 101 .is) r1 r1
      (cF rfl (oL false 1 101 .adr) r1 r1
      (cF rfl (oF 2 101 .is) r1 r1
      (cF rfl (oL false 1 101 .adr) r1 r1
      (cF rfl (o_callG1 61 (add_c b1 (roomN n) q la (Go.Gm.nth l i).u (Go.Gm.nth l i).v (by omega)) Tryd.func12 rfl (by kernel_rfl) (Args.three .t .t .t)) r3 r1
      (cF rfl (oN .t) r1 trivial
      Chain.nil)))))))
      hB ?_
    clear hS; intro a w F hS
    obtain ⟨F, hS⟩ := hS.nm [43, 42, 41, 14, 13, 11, 9, 8, 7, 6, 5, 4] [101, 61, 9, 0] rfl rfl
    try dsimp only [List.map, xD, xE, xT, xU, ldSF, rPair, rDeed4, rInt, rRow] at hS
    rw [stepQ_kind0 hkd, lastD_kind0 hkd] at hS
    obtain ⟨q2, hq2⟩ : ∃ z, z = (stepQ (roomN n) q (Go.Gm.nth l i)).1 := ⟨_, rfl⟩
    obtain ⟨la2, hla2⟩ : ∃ z, z = lastD (roomN n) q la (Go.Gm.nth l i) := ⟨_, rfl⟩
    rw [← hq2, ← hla2] at hS
    have hqn2 : InN (roomN n) q2 := by rw [hq2]; exact stepQ_in hqn
    have hql2 : q2.length ≤ i + 1 := by have := stepQ_len (roomN n) q (Go.Gm.nth l i); rw [← hq2] at this; omega
    refine then_n (wp_seq (wp_seq ?_))
    refine region_q hS
      (cF rfl (oM .t) r1 trivial
      (cF rfl (o_eql .t (.ci (by kernel_rfl))) r1 trivial
      Chain.nil))
      hB ?_
    clear hS; intro a w F hS
    obtain ⟨F, hS⟩ := hS.nm [71, 43, 42, 41, 14, 13, 11, 9, 8, 7, 6, 5, 4] [101, 61, 9, 0] rfl rfl
    try dsimp only [rPair, rDeed4, rInt, rRow] at hS
    refine then_n ?_
    refine cond_b hS rfl (fun hc3 => ?_) (fun hc3 => ?_)
    ·skip
     have he0 : (stepQ (roomN n) q (Go.Gm.nth l i)).2 = 0 := by simpa using hc3
     have hla3 : lastQ (roomN n) q q2 = la2 := by rw [hla2]; unfold lastD; rw [if_pos he0, hq2]
     refine wp_seq ?_
     refine region_q hS
       (cF rfl (oM .t) r1 trivial
       (cF rfl (oM .t) r1 trivial
       (cF rfl (oP (rows24_c (roomN n) q2 (roomN_le n) (by omega)) Tryd.func10 (Args.two .t .t)) r2 trivial
       (cF rfl (oN .t) r1 trivial
       Chain.nil))))
       hB ?_
     clear hS; intro a w F hS
     obtain ⟨F, hS⟩ := hS.nm [43, 42, 41, 15, 14, 13, 11, 9, 8, 7, 6, 5, 4] [101, 61, 9, 0] rfl rfl
     try dsimp only [rPair, rDeed4, rInt, rRow] at hS
     refine then_n (wp_seq ?_)
     refine region_q hS
       (cF rfl (oM .t) r1 trivial
       (cF rfl (oM .t) r1 trivial
       (cF rfl (oP (other24_c (rowsQ q (roomN n)) (rowsQ q2 (roomN n)) (by rw [rowsQ_len]; omega) (by rw [rowsQ_len, rowsQ_len])) Tryd.func14 (Args.two .t .t)) r2 trivial
       (cF rfl (oN .t) r1 trivial
       Chain.nil))))
       hB ?_
     clear hS; intro a w F hS
     obtain ⟨F, hS⟩ := hS.nm [43, 42, 41, 15, 14, 13, 11, 9, 8, 7, 6, 5, 4] [101, 61, 9, 0] rfl rfl
     try dsimp only [rPair, rDeed4, rInt, rRow] at hS
     rw [show otherL (rowsQ q (roomN n)) (rowsQ q2 (roomN n)) = la2 from hla3] at hS
     refine then_n ?_
     refine region_q hS
       (cF rfl (oM .t) r1 trivial
       (cF rfl (oN .t) r1 trivial
       Chain.nil))
       hB ?_
     clear hS; intro a w F hS
     obtain ⟨F, hS⟩ := hS.nm [43, 42, 41, 14, 13, 11, 9, 8, 7, 6, 5, 4] [101, 61, 9, 0] rfl rfl
     try dsimp only [rPair, rDeed4, rInt, rRow] at hS
     refine then_n (wp_seq (wp_seq ?_))
     refine region_any (by kernel_rfl) hS (by kernel_rfl)
       (cF rfl (oM .t) r1 trivial
       (cF rfl (oM .t) r1 trivial
       (cF rfl (o_neq .t .t) r2 trivial
       (cF rfl (oM .t) r1 trivial
       (Chain.cons (Cert.cond rfl rfl (fun h => o_move .t (by rfl))) r2 trivial
       (Chain.cons (Cert.condR rfl rfl (by rfl) (fun h => o_callG1 61 (nodes_c b1 (roomN n) q2 la2) Tryd.func15 rfl (by kernel_rfl) (Args.one (.w h)))) r2 r1
       (Chain.cons (Cert.cond rfl rfl (fun h => o_move .t (by rfl))) r2 trivial
       (Chain.cons (Cert.cond rfl rfl (fun h => o_neq (.w h) (.w h))) r3 trivial
       (cF rfl (o_or2 .t .t) r2 trivial
       (cF rfl (oM .t) r1 trivial
       (Chain.cons (Cert.cond rfl rfl (fun h => o_move .t (by rfl))) r2 trivial
       (Chain.cons (Cert.cond rfl rfl (fun h => o_fieldAddr (off := 1) 101 .is (by kernel_rfl) (by rfl))) r2 r1
       (Chain.cons (Cert.cond rfl rfl (fun h => o_load (ag := false) (sz := 1) 101 (.w h .adr) (by kernel_rfl) (by kernel_rfl) (by kernel_rfl) (by rfl))) r2 r1
       (Chain.cons (Cert.cond rfl rfl (fun h => o_fieldAddr (off := 2) 101 .is (by kernel_rfl) (by rfl))) r2 r1
       (Chain.cons (Cert.cond rfl rfl (fun h => o_load (ag := false) (sz := 1) 101 (.w h .adr) (by kernel_rfl) (by kernel_rfl) (by kernel_rfl) (by rfl))) r2 r1
       (Chain.cons (Cert.condR rfl rfl (by rfl) (fun h => o_callG1 61 (arcs_c b1 (roomN n) q2 la2 (Go.Gm.nth l i).u (Go.Gm.nth l i).v) Tryd.func16 rfl (by kernel_rfl) (Args.three (.w h) (.w h) (.w h)))) r4 r1
       (Chain.cons (Cert.cond rfl rfl (fun h => o_move .t (by rfl))) r2 trivial
       (Chain.cons (Cert.cond rfl rfl (fun h => o_fieldAddr (off := 1) 101 .is (by kernel_rfl) (by rfl))) r2 r1
       (Chain.cons (Cert.cond rfl rfl (fun h => o_load (ag := false) (sz := 1) 101 (.w h .adr) (by kernel_rfl) (by kernel_rfl) (by kernel_rfl) (by rfl))) r2 r1
       (Chain.cons (Cert.cond rfl rfl (fun h => o_fieldAddr (off := 2) 101 .is (by kernel_rfl) (by rfl))) r2 r1
       (Chain.cons (Cert.cond rfl rfl (fun h => o_load (ag := false) (sz := 1) 101 (.w h .adr) (by kernel_rfl) (by kernel_rfl) (by kernel_rfl) (by rfl))) r2 r1
       (Chain.cons (Cert.cond rfl rfl (fun h => o_callP (count24_c q2 (Go.Gm.nth l i).u (Go.Gm.nth l i).v) Tryd.func17 rfl (by kernel_rfl) (Args.three (.w h) (.w h) (.w h)))) r4 trivial
       (Chain.cons (Cert.cond rfl rfl (fun h => o_neq (.w h) (.w h))) r3 trivial
       (cF rfl (o_or2 .t .t) r2 trivial
       (cF rfl (oM .t) r1 trivial
       (Chain.cons (Cert.cond rfl rfl (fun h => o_move .t (by rfl))) r2 trivial
       (Chain.cons (Cert.condR rfl rfl (by rfl) (fun h => o_callG1 61 (last_c b1 (roomN n) q2 la2) Tryd.func19 rfl (by kernel_rfl) (Args.one (.w h)))) r2 r1
       (Chain.cons (Cert.cond rfl rfl (fun h => o_move .t (by rfl))) r2 trivial
       (Chain.cons (Cert.cond rfl rfl (fun h => o_callP (sameInts_c la2 la2) Tryd.func18 rfl (by kernel_rfl) (Args.two (.w h) (.w h)))) r3 trivial
       (Chain.cons (Cert.cond rfl rfl (fun h => o_not (.w h))) r2 trivial
       (cF rfl (o_or2 .t .t) r2 trivial
       Chain.nil)))))))))))))))))))))))))))))))
       (by kernel_rfl) (by rw [hB]; kernel_rfl) ?_
     clear hS; intro a w F hS
     obtain ⟨F, hS⟩ := hS.nm [109, 43, 42, 41, 11, 9, 8, 7, 6, 5, 4] [101, 61, 9, 0] rfl rfl
     try dsimp only [List.map, xD, xE, xT, xU, ldSF, rPair, rDeed4, rInt, rRow] at hS
     refine then_n ?_
     refine cond_b hS rfl (fun hc4 => ?_) (fun hc4 => ?_)
     ·skip
      rw [arcs_all hqn2] at hc4
      simp at hc4
     refine wp_skip (then_n (wp_seq (wp_seq ?_)))
     refine region_q hS
       (cF rfl (oM .t) r1 trivial
       (cF rfl (o_len_sl Tryd.underlying28 .t) r1 trivial
       (cF rfl (oM (.ci (by kernel_rfl))) trivial trivial
       Chain.nil)))
       hB ?_
     clear hS; intro a w F hS
     obtain ⟨F, hS⟩ := hS.nm [112, 111, 110, 43, 42, 41, 11, 9, 8, 7, 6, 5, 4] [101, 61, 9, 0] rfl rfl
     try dsimp only [rPair, rDeed4, rInt, rRow] at hS
     refine then_n (wp_block ?_)
     refine loop_keep (σ := (Nat)) [4, 5, 6, 7, 8, 9, 11, 41, 42, 43, 110, 111] [0, 9, 61, 101] (fun s => [(112, .pv (.int .i64 (s : Int)))]) (fun s => []) (fun s => s ≤ (rowsQ q2 (roomN n)).length ∧ (True)) (fun s => (rowsQ q2 (roomN n)).length - s) (0) hS ⟨rfl, rfl, rfl, rfl, rfl, rfl, rfl, rfl, rfl, rfl, rfl, rfl, rfl, trivial⟩ ⟨rfl, rfl, rfl, rfl, trivial⟩ ⟨Nat.zero_le _, trivial⟩ ?_
     clear hS; intro k a w F hC hS
     try dsimp only at hC
     obtain ⟨F, hS⟩ := hS.nm [112, 111, 110, 43, 42, 41, 11, 9, 8, 7, 6, 5, 4] [101, 61, 9, 0] rfl rfl
     try dsimp only at hS
     obtain ⟨hi, hq⟩ := hC
     refine wp_seq ?_
     refine region_q hS
       (cF rfl (o_lss .t .t) r2 trivial
       Chain.nil)
       hB ?_
     clear hS; intro a w F hS
     obtain ⟨F, hS⟩ := hS.nm [113, 112, 111, 110, 43, 42, 41, 11, 9, 8, 7, 6, 5, 4] [101, 61, 9, 0] rfl rfl
     try dsimp only [rPair, rDeed4, rInt, rRow] at hS
     refine then_n (wp_seq ?_)
     refine cond_b hS rfl (fun hc5 => ?_) (fun hc5 => ?_)
     ·skip
      have hil : k < (rowsQ q2 (roomN n)).length := by simp at hc5; omega
      have hkm : k < (roomN n) := by rw [rowsQ_len] at hil; omega
      have hrn : Go.Gm.nth (rowsQ q2 (roomN n)) k = reachQ q2 (k : Int) := rowsQ_nth hkm
      have hrb : rowB (roomN n) q2 (k : Int) = Go.Gm.nth (rowsQ q2 (roomN n)) k := by rw [hrn]; exact if_pos ⟨by omega, by omega⟩
      have hre : reachB (roomN n) q2 (k : Int) (Go.Gm.nth l i).v = decide ((Go.Gm.nth l i).v ∈ Go.Gm.nth (rowsQ q2 (roomN n)) k) := by rw [hrn]; unfold reachB; rw [decide_eq_decide]; exact ⟨fun h => h.2, fun h => ⟨⟨by omega, by omega⟩, h⟩⟩
      refine wp_skip (then_n (wp_seq (wp_block (wp_seq ?_))))
      refine region_q hS
        (cF rfl (oM .t) r1 trivial
        (cF rfl (o_indexAddr_sl (sz := 1) (.mk Tryd.underlying28 (by kernel_rfl)) (by intro x; rfl) .t .t (by omega) (by omega)) r2 trivial
        (cF rfl (oR false 1 .t) r1 trivial
        (cF rfl (oN .t) r1 trivial
        (cF rfl (oN .t) r1 trivial
        Chain.nil)))))
        hB ?_
      clear hS; intro a w F hS
      obtain ⟨F, hS⟩ := hS.nm [112, 111, 110, 43, 42, 41, 17, 16, 11, 9, 8, 7, 6, 5, 4] [101, 61, 9, 0] rfl rfl
      try dsimp only [List.map, xD, xE, xT, xU, ldSF, rPair, rDeed4, rInt, rRow] at hS
      try simp only [Int.toNat_natCast] at hS
      refine then_n (wp_seq ?_)
      refine region_any (by kernel_rfl) hS (by kernel_rfl)
        (cF rfl (oM .t) r1 trivial
        (cF rfl (oM .t) r1 trivial
        (cF rfl (o_callG1 61 (crow_c b1 (roomN n) q2 la2 (k : Int)) Tryd.func20 rfl (by kernel_rfl) (Args.two .t .t)) r2 r1
        (cF rfl (oM .t) r1 trivial
        (cF rfl (oP (sameInts_c (rowB (roomN n) q2 (k : Int)) (Go.Gm.nth (rowsQ q2 (roomN n)) k)) Tryd.func18 (Args.two .t .t)) r2 trivial
        (cF rfl (o_not .t) r1 trivial
        (cF rfl (oM .t) r1 trivial
        (Chain.cons (Cert.cond rfl rfl (fun h => o_move .t (by rfl))) r2 trivial
        (Chain.cons (Cert.cond rfl rfl (fun h => o_move .t (by rfl))) r2 trivial
        (Chain.cons (Cert.cond rfl rfl (fun h => o_fieldAddr (off := 2) 101 .is (by kernel_rfl) (by rfl))) r2 r1
        (Chain.cons (Cert.cond rfl rfl (fun h => o_load (ag := false) (sz := 1) 101 (.w h .adr) (by kernel_rfl) (by kernel_rfl) (by kernel_rfl) (by rfl))) r2 r1
        (Chain.cons (Cert.condR rfl rfl (by rfl) (fun h => o_callG1 61 (reaches_c b1 (roomN n) q2 la2 (k : Int) (Go.Gm.nth l i).v) Tryd.func21 rfl (by kernel_rfl) (Args.three (.w h) (.w h) (.w h)))) r4 r1
        (Chain.cons (Cert.cond rfl rfl (fun h => o_move .t (by rfl))) r2 trivial
        (Chain.cons (Cert.cond rfl rfl (fun h => o_fieldAddr (off := 2) 101 .is (by kernel_rfl) (by rfl))) r2 r1
        (Chain.cons (Cert.cond rfl rfl (fun h => o_load (ag := false) (sz := 1) 101 (.w h .adr) (by kernel_rfl) (by kernel_rfl) (by kernel_rfl) (by rfl))) r2 r1
        (Chain.cons (Cert.cond rfl rfl (fun h => o_callP (in_c (Go.Gm.nth (rowsQ q2 (roomN n)) k) (Go.Gm.nth l i).v (by rw [hrn]; have := reachQ_len q2 (k : Int); omega)) Tryd.func22 rfl (by kernel_rfl) (Args.two (.w h) (.w h)))) r3 trivial
        (Chain.cons (Cert.cond rfl rfl (fun h => o_neqB Tryd.underlying4 (.w h) (.w h))) r3 trivial
        (cF rfl (o_or2 .t .t) r2 trivial
        Chain.nil))))))))))))))))))
        (by kernel_rfl) (by rw [hB]; kernel_rfl) ?_
      clear hS; intro a w F hS
      obtain ⟨F, hS⟩ := hS.nm [134, 112, 111, 110, 43, 42, 41, 11, 9, 8, 7, 6, 5, 4] [101, 61, 9, 0] rfl rfl
      try dsimp only [List.map, xD, xE, xT, xU, ldSF, rPair, rDeed4, rInt, rRow] at hS
      refine then_n ?_
      refine cond_b hS rfl (fun hc6 => ?_) (fun hc6 => ?_)
      ·skip
       rw [hrb, hre] at hc6
       simp at hc6
      refine wp_skip (block_n (then_n ?_))
      refine region_q hS
        (cF rfl (o_add .t (.ci (by kernel_rfl))) r1 trivial
        (cF rfl (oM .t) r1 trivial
        Chain.nil))
        hB ?_
      clear hS; intro a w F hS
      obtain ⟨F, hS⟩ := hS.nm [112, 111, 110, 43, 42, 41, 11, 9, 8, 7, 6, 5, 4] [101, 61, 9, 0] rfl rfl
      try dsimp only [rPair, rDeed4, rInt, rRow] at hS
      refine then_n ?_
      replace hS := hS.ent (i := 112) (s' := .pv (.int .i64 ((k + 1 : Nat) : Int))) rfl (.int (wrap_succ (by omega)))
      obtain ⟨F, hS⟩ := hS.nm [111, 110, 43, 42, 41, 11, 9, 8, 7, 6, 5, 4, 112] [101, 61, 9, 0] rfl rfl
      exact ⟨(k + 1), F, ⟨by omega, trivial⟩, hS, by omega⟩
     have hil : k = (rowsQ q2 (roomN n)).length := by simp at hc5; omega
     refine wp_exit (then_x (then_x (block_x (then_n (wp_seq ?_)))))
     refine region_q hS
       (cF rfl (oM .t) r1 trivial
       (cF rfl (oF 1 101 .is) r1 r1
       (cF rfl (oL false 1 101 .adr) r1 r1
       (cF rfl (oP (there24_c (roomN n) (Go.Gm.nth l i).u) Tryd.func23 (Args.two .t .t)) r2 trivial
       (cF rfl (o_not .t) r1 trivial
       (cF rfl (oM .t) r1 trivial
       (Chain.cons (Cert.cond rfl rfl (fun h => o_move .t (by rfl))) r2 trivial
       (Chain.cons (Cert.cond rfl rfl (fun h => o_fieldAddr (off := 1) 101 .is (by kernel_rfl) (by rfl))) r2 r1
       (Chain.cons (Cert.cond rfl rfl (fun h => o_load (ag := false) (sz := 1) 101 (.w h .adr) (by kernel_rfl) (by kernel_rfl) (by kernel_rfl) (by rfl))) r2 r1
       (Chain.cons (Cert.condR rfl rfl (by rfl) (fun h => o_callG1 61 (crow_c b1 (roomN n) q2 la2 (Go.Gm.nth l i).u) Tryd.func20 rfl (by kernel_rfl) (Args.two (.w h) (.w h)))) r3 r1
       (Chain.cons (Cert.cond rfl rfl (fun h => o_len_sl Tryd.underlying30 (.w h))) r2 trivial
       (Chain.cons (Cert.cond rfl rfl (fun h => o_neq (.w h) (.ci (by kernel_rfl)))) r2 trivial
       (cF rfl (o_and2 .t .t) r2 trivial
       Chain.nil)))))))))))))
       hB ?_
     clear hS; intro a w F hS
     obtain ⟨F, hS⟩ := hS.nm [148, 43, 42, 41, 9, 8, 7, 6, 5, 4] [61, 9, 0] rfl rfl
     try dsimp only [List.map, xD, xE, xT, xU, ldSF, rPair, rDeed4, rInt, rRow] at hS
     refine then_n ?_
     refine cond_b hS rfl (fun hc7 => ?_) (fun hc7 => ?_)
     ·skip
      have hb2 := hc7
      rw [Bool.and_eq_true] at hb2
      have hnt : ¬ There (roomN n) (Go.Gm.nth l i).u := by intro h9; simp [h9] at hb2
      have hb3 := hb2.2
      rw [show rowB (roomN n) q2 (Go.Gm.nth l i).u = [] from if_neg hnt] at hb3
      simp at hb3
     refine wp_skip (block_n (then_n ?_))
     refine region_q hS
       (cF rfl (o_add .t (.ci (by kernel_rfl))) r1 trivial
       (cF rfl (oM .t) r1 trivial
       Chain.nil))
       hB ?_
     clear hS; intro a w F hS
     obtain ⟨F, hS⟩ := hS.nm [43, 42, 41, 9, 8, 7, 6, 5, 4] [61, 9, 0] rfl rfl
     try dsimp only [rPair, rDeed4, rInt, rRow] at hS
     refine then_n ?_
     replace hS := hS.ent (i := 43) (s' := .pv (.int .i64 ((i + 1 : Nat) : Int))) rfl (.int (wrap_succ (by omega)))
     obtain ⟨F, hS⟩ := hS.nm [42, 41, 6, 5, 4, 9, 8, 7, 43] [9, 0, 61] rfl rfl
     exact ⟨((i + 1), (q2), (la2)), F, ⟨by omega, ⟨by omega, hqn2⟩⟩, hS, by omega⟩
    have he0 : ¬ (stepQ (roomN n) q (Go.Gm.nth l i)).2 = 0 := by simpa using hc3
    have hqs : q = q2 := by rw [hq2]; exact (stepQ_same he0).symm
    have hls2 : la = la2 := by rw [hla2]; unfold lastD; rw [if_neg he0]
    replace hS := hS.ent (i := 8) (s' := .pv (.sl rRow (rowsQ q2 (roomN n)))) rfl (Ent.eqSl (by rw [← hqs]))
    replace hS := hS.ent (i := 9) (s' := .pv (.sl rInt la2)) rfl (Ent.eqSl hls2)
    refine wp_skip (then_n (wp_seq (wp_seq ?_)))
    refine region_any (by kernel_rfl) hS (by kernel_rfl)
      (cF rfl (oM .t) r1 trivial
      (cF rfl (oM .t) r1 trivial
      (cF rfl (o_neq .t .t) r2 trivial
      (cF rfl (oM .t) r1 trivial
      (Chain.cons (Cert.cond rfl rfl (fun h => o_move .t (by rfl))) r2 trivial
      (Chain.cons (Cert.condR rfl rfl (by rfl) (fun h => o_callG1 61 (nodes_c b1 (roomN n) q2 la2) Tryd.func15 rfl (by kernel_rfl) (Args.one (.w h)))) r2 r1
      (Chain.cons (Cert.cond rfl rfl (fun h => o_move .t (by rfl))) r2 trivial
      (Chain.cons (Cert.cond rfl rfl (fun h => o_neq (.w h) (.w h))) r3 trivial
      (cF rfl (o_or2 .t .t) r2 trivial
      (cF rfl (oM .t) r1 trivial
      (Chain.cons (Cert.cond rfl rfl (fun h => o_move .t (by rfl))) r2 trivial
      (Chain.cons (Cert.cond rfl rfl (fun h => o_fieldAddr (off := 1) 101 .is (by kernel_rfl) (by rfl))) r2 r1
      (Chain.cons (Cert.cond rfl rfl (fun h => o_load (ag := false) (sz := 1) 101 (.w h .adr) (by kernel_rfl) (by kernel_rfl) (by kernel_rfl) (by rfl))) r2 r1
      (Chain.cons (Cert.cond rfl rfl (fun h => o_fieldAddr (off := 2) 101 .is (by kernel_rfl) (by rfl))) r2 r1
      (Chain.cons (Cert.cond rfl rfl (fun h => o_load (ag := false) (sz := 1) 101 (.w h .adr) (by kernel_rfl) (by kernel_rfl) (by kernel_rfl) (by rfl))) r2 r1
      (Chain.cons (Cert.condR rfl rfl (by rfl) (fun h => o_callG1 61 (arcs_c b1 (roomN n) q2 la2 (Go.Gm.nth l i).u (Go.Gm.nth l i).v) Tryd.func16 rfl (by kernel_rfl) (Args.three (.w h) (.w h) (.w h)))) r4 r1
      (Chain.cons (Cert.cond rfl rfl (fun h => o_move .t (by rfl))) r2 trivial
      (Chain.cons (Cert.cond rfl rfl (fun h => o_fieldAddr (off := 1) 101 .is (by kernel_rfl) (by rfl))) r2 r1
      (Chain.cons (Cert.cond rfl rfl (fun h => o_load (ag := false) (sz := 1) 101 (.w h .adr) (by kernel_rfl) (by kernel_rfl) (by kernel_rfl) (by rfl))) r2 r1
      (Chain.cons (Cert.cond rfl rfl (fun h => o_fieldAddr (off := 2) 101 .is (by kernel_rfl) (by rfl))) r2 r1
      (Chain.cons (Cert.cond rfl rfl (fun h => o_load (ag := false) (sz := 1) 101 (.w h .adr) (by kernel_rfl) (by kernel_rfl) (by kernel_rfl) (by rfl))) r2 r1
      (Chain.cons (Cert.cond rfl rfl (fun h => o_callP (count24_c q2 (Go.Gm.nth l i).u (Go.Gm.nth l i).v) Tryd.func17 rfl (by kernel_rfl) (Args.three (.w h) (.w h) (.w h)))) r4 trivial
      (Chain.cons (Cert.cond rfl rfl (fun h => o_neq (.w h) (.w h))) r3 trivial
      (cF rfl (o_or2 .t .t) r2 trivial
      (cF rfl (oM .t) r1 trivial
      (Chain.cons (Cert.cond rfl rfl (fun h => o_move .t (by rfl))) r2 trivial
      (Chain.cons (Cert.condR rfl rfl (by rfl) (fun h => o_callG1 61 (last_c b1 (roomN n) q2 la2) Tryd.func19 rfl (by kernel_rfl) (Args.one (.w h)))) r2 r1
      (Chain.cons (Cert.cond rfl rfl (fun h => o_move .t (by rfl))) r2 trivial
      (Chain.cons (Cert.cond rfl rfl (fun h => o_callP (sameInts_c la2 la2) Tryd.func18 rfl (by kernel_rfl) (Args.two (.w h) (.w h)))) r3 trivial
      (Chain.cons (Cert.cond rfl rfl (fun h => o_not (.w h))) r2 trivial
      (cF rfl (o_or2 .t .t) r2 trivial
      Chain.nil)))))))))))))))))))))))))))))))
      (by kernel_rfl) (by rw [hB]; kernel_rfl) ?_
    clear hS; intro a w F hS
    obtain ⟨F, hS⟩ := hS.nm [109, 43, 42, 41, 11, 9, 8, 7, 6, 5, 4] [101, 61, 9, 0] rfl rfl
    try dsimp only [List.map, xD, xE, xT, xU, ldSF, rPair, rDeed4, rInt, rRow] at hS
    refine then_n ?_
    refine cond_b hS rfl (fun hc8 => ?_) (fun hc8 => ?_)
    ·skip
     rw [arcs_all hqn2] at hc8
     simp at hc8
    refine wp_skip (then_n (wp_seq (wp_seq ?_)))
    refine region_q hS
      (cF rfl (oM .t) r1 trivial
      (cF rfl (o_len_sl Tryd.underlying28 .t) r1 trivial
      (cF rfl (oM (.ci (by kernel_rfl))) trivial trivial
      Chain.nil)))
      hB ?_
    clear hS; intro a w F hS
    obtain ⟨F, hS⟩ := hS.nm [112, 111, 110, 43, 42, 41, 11, 9, 8, 7, 6, 5, 4] [101, 61, 9, 0] rfl rfl
    try dsimp only [rPair, rDeed4, rInt, rRow] at hS
    refine then_n (wp_block ?_)
    refine loop_keep (σ := (Nat)) [4, 5, 6, 7, 8, 9, 11, 41, 42, 43, 110, 111] [0, 9, 61, 101] (fun s => [(112, .pv (.int .i64 (s : Int)))]) (fun s => []) (fun s => s ≤ (rowsQ q2 (roomN n)).length ∧ (True)) (fun s => (rowsQ q2 (roomN n)).length - s) (0) hS ⟨rfl, rfl, rfl, rfl, rfl, rfl, rfl, rfl, rfl, rfl, rfl, rfl, rfl, trivial⟩ ⟨rfl, rfl, rfl, rfl, trivial⟩ ⟨Nat.zero_le _, trivial⟩ ?_
    clear hS; intro k a w F hC hS
    try dsimp only at hC
    obtain ⟨F, hS⟩ := hS.nm [112, 111, 110, 43, 42, 41, 11, 9, 8, 7, 6, 5, 4] [101, 61, 9, 0] rfl rfl
    try dsimp only at hS
    obtain ⟨hi, hq⟩ := hC
    refine wp_seq ?_
    refine region_q hS
      (cF rfl (o_lss .t .t) r2 trivial
      Chain.nil)
      hB ?_
    clear hS; intro a w F hS
    obtain ⟨F, hS⟩ := hS.nm [113, 112, 111, 110, 43, 42, 41, 11, 9, 8, 7, 6, 5, 4] [101, 61, 9, 0] rfl rfl
    try dsimp only [rPair, rDeed4, rInt, rRow] at hS
    refine then_n (wp_seq ?_)
    refine cond_b hS rfl (fun hc9 => ?_) (fun hc9 => ?_)
    ·skip
     have hil : k < (rowsQ q2 (roomN n)).length := by simp at hc9; omega
     have hkm : k < (roomN n) := by rw [rowsQ_len] at hil; omega
     have hrn : Go.Gm.nth (rowsQ q2 (roomN n)) k = reachQ q2 (k : Int) := rowsQ_nth hkm
     have hrb : rowB (roomN n) q2 (k : Int) = Go.Gm.nth (rowsQ q2 (roomN n)) k := by rw [hrn]; exact if_pos ⟨by omega, by omega⟩
     have hre : reachB (roomN n) q2 (k : Int) (Go.Gm.nth l i).v = decide ((Go.Gm.nth l i).v ∈ Go.Gm.nth (rowsQ q2 (roomN n)) k) := by rw [hrn]; unfold reachB; rw [decide_eq_decide]; exact ⟨fun h => h.2, fun h => ⟨⟨by omega, by omega⟩, h⟩⟩
     refine wp_skip (then_n (wp_seq (wp_block (wp_seq ?_))))
     refine region_q hS
       (cF rfl (oM .t) r1 trivial
       (cF rfl (o_indexAddr_sl (sz := 1) (.mk Tryd.underlying28 (by kernel_rfl)) (by intro x; rfl) .t .t (by omega) (by omega)) r2 trivial
       (cF rfl (oR false 1 .t) r1 trivial
       (cF rfl (oN .t) r1 trivial
       (cF rfl (oN .t) r1 trivial
       Chain.nil)))))
       hB ?_
     clear hS; intro a w F hS
     obtain ⟨F, hS⟩ := hS.nm [112, 111, 110, 43, 42, 41, 17, 16, 11, 9, 8, 7, 6, 5, 4] [101, 61, 9, 0] rfl rfl
     try dsimp only [List.map, xD, xE, xT, xU, ldSF, rPair, rDeed4, rInt, rRow] at hS
     try simp only [Int.toNat_natCast] at hS
     refine then_n (wp_seq ?_)
     refine region_any (by kernel_rfl) hS (by kernel_rfl)
       (cF rfl (oM .t) r1 trivial
       (cF rfl (oM .t) r1 trivial
       (cF rfl (o_callG1 61 (crow_c b1 (roomN n) q2 la2 (k : Int)) Tryd.func20 rfl (by kernel_rfl) (Args.two .t .t)) r2 r1
       (cF rfl (oM .t) r1 trivial
       (cF rfl (oP (sameInts_c (rowB (roomN n) q2 (k : Int)) (Go.Gm.nth (rowsQ q2 (roomN n)) k)) Tryd.func18 (Args.two .t .t)) r2 trivial
       (cF rfl (o_not .t) r1 trivial
       (cF rfl (oM .t) r1 trivial
       (Chain.cons (Cert.cond rfl rfl (fun h => o_move .t (by rfl))) r2 trivial
       (Chain.cons (Cert.cond rfl rfl (fun h => o_move .t (by rfl))) r2 trivial
       (Chain.cons (Cert.cond rfl rfl (fun h => o_fieldAddr (off := 2) 101 .is (by kernel_rfl) (by rfl))) r2 r1
       (Chain.cons (Cert.cond rfl rfl (fun h => o_load (ag := false) (sz := 1) 101 (.w h .adr) (by kernel_rfl) (by kernel_rfl) (by kernel_rfl) (by rfl))) r2 r1
       (Chain.cons (Cert.condR rfl rfl (by rfl) (fun h => o_callG1 61 (reaches_c b1 (roomN n) q2 la2 (k : Int) (Go.Gm.nth l i).v) Tryd.func21 rfl (by kernel_rfl) (Args.three (.w h) (.w h) (.w h)))) r4 r1
       (Chain.cons (Cert.cond rfl rfl (fun h => o_move .t (by rfl))) r2 trivial
       (Chain.cons (Cert.cond rfl rfl (fun h => o_fieldAddr (off := 2) 101 .is (by kernel_rfl) (by rfl))) r2 r1
       (Chain.cons (Cert.cond rfl rfl (fun h => o_load (ag := false) (sz := 1) 101 (.w h .adr) (by kernel_rfl) (by kernel_rfl) (by kernel_rfl) (by rfl))) r2 r1
       (Chain.cons (Cert.cond rfl rfl (fun h => o_callP (in_c (Go.Gm.nth (rowsQ q2 (roomN n)) k) (Go.Gm.nth l i).v (by rw [hrn]; have := reachQ_len q2 (k : Int); omega)) Tryd.func22 rfl (by kernel_rfl) (Args.two (.w h) (.w h)))) r3 trivial
       (Chain.cons (Cert.cond rfl rfl (fun h => o_neqB Tryd.underlying4 (.w h) (.w h))) r3 trivial
       (cF rfl (o_or2 .t .t) r2 trivial
       Chain.nil))))))))))))))))))
       (by kernel_rfl) (by rw [hB]; kernel_rfl) ?_
     clear hS; intro a w F hS
     obtain ⟨F, hS⟩ := hS.nm [134, 112, 111, 110, 43, 42, 41, 11, 9, 8, 7, 6, 5, 4] [101, 61, 9, 0] rfl rfl
     try dsimp only [List.map, xD, xE, xT, xU, ldSF, rPair, rDeed4, rInt, rRow] at hS
     refine then_n ?_
     refine cond_b hS rfl (fun hc10 => ?_) (fun hc10 => ?_)
     ·skip
      rw [hrb, hre] at hc10
      simp at hc10
     refine wp_skip (block_n (then_n ?_))
     refine region_q hS
       (cF rfl (o_add .t (.ci (by kernel_rfl))) r1 trivial
       (cF rfl (oM .t) r1 trivial
       Chain.nil))
       hB ?_
     clear hS; intro a w F hS
     obtain ⟨F, hS⟩ := hS.nm [112, 111, 110, 43, 42, 41, 11, 9, 8, 7, 6, 5, 4] [101, 61, 9, 0] rfl rfl
     try dsimp only [rPair, rDeed4, rInt, rRow] at hS
     refine then_n ?_
     replace hS := hS.ent (i := 112) (s' := .pv (.int .i64 ((k + 1 : Nat) : Int))) rfl (.int (wrap_succ (by omega)))
     obtain ⟨F, hS⟩ := hS.nm [111, 110, 43, 42, 41, 11, 9, 8, 7, 6, 5, 4, 112] [101, 61, 9, 0] rfl rfl
     exact ⟨(k + 1), F, ⟨by omega, trivial⟩, hS, by omega⟩
    have hil : k = (rowsQ q2 (roomN n)).length := by simp at hc9; omega
    refine wp_exit (then_x (then_x (block_x (then_n (wp_seq ?_)))))
    refine region_q hS
      (cF rfl (oM .t) r1 trivial
      (cF rfl (oF 1 101 .is) r1 r1
      (cF rfl (oL false 1 101 .adr) r1 r1
      (cF rfl (oP (there24_c (roomN n) (Go.Gm.nth l i).u) Tryd.func23 (Args.two .t .t)) r2 trivial
      (cF rfl (o_not .t) r1 trivial
      (cF rfl (oM .t) r1 trivial
      (Chain.cons (Cert.cond rfl rfl (fun h => o_move .t (by rfl))) r2 trivial
      (Chain.cons (Cert.cond rfl rfl (fun h => o_fieldAddr (off := 1) 101 .is (by kernel_rfl) (by rfl))) r2 r1
      (Chain.cons (Cert.cond rfl rfl (fun h => o_load (ag := false) (sz := 1) 101 (.w h .adr) (by kernel_rfl) (by kernel_rfl) (by kernel_rfl) (by rfl))) r2 r1
      (Chain.cons (Cert.condR rfl rfl (by rfl) (fun h => o_callG1 61 (crow_c b1 (roomN n) q2 la2 (Go.Gm.nth l i).u) Tryd.func20 rfl (by kernel_rfl) (Args.two (.w h) (.w h)))) r3 r1
      (Chain.cons (Cert.cond rfl rfl (fun h => o_len_sl Tryd.underlying30 (.w h))) r2 trivial
      (Chain.cons (Cert.cond rfl rfl (fun h => o_neq (.w h) (.ci (by kernel_rfl)))) r2 trivial
      (cF rfl (o_and2 .t .t) r2 trivial
      Chain.nil)))))))))))))
      hB ?_
    clear hS; intro a w F hS
    obtain ⟨F, hS⟩ := hS.nm [148, 43, 42, 41, 9, 8, 7, 6, 5, 4] [61, 9, 0] rfl rfl
    try dsimp only [List.map, xD, xE, xT, xU, ldSF, rPair, rDeed4, rInt, rRow] at hS
    refine then_n ?_
    refine cond_b hS rfl (fun hc11 => ?_) (fun hc11 => ?_)
    ·skip
     have hb2 := hc11
     rw [Bool.and_eq_true] at hb2
     have hnt : ¬ There (roomN n) (Go.Gm.nth l i).u := by intro h9; simp [h9] at hb2
     have hb3 := hb2.2
     rw [show rowB (roomN n) q2 (Go.Gm.nth l i).u = [] from if_neg hnt] at hb3
     simp at hb3
    refine wp_skip (block_n (then_n ?_))
    refine region_q hS
      (cF rfl (o_add .t (.ci (by kernel_rfl))) r1 trivial
      (cF rfl (oM .t) r1 trivial
      Chain.nil))
      hB ?_
    clear hS; intro a w F hS
    obtain ⟨F, hS⟩ := hS.nm [43, 42, 41, 9, 8, 7, 6, 5, 4] [61, 9, 0] rfl rfl
    try dsimp only [rPair, rDeed4, rInt, rRow] at hS
    refine then_n ?_
    replace hS := hS.ent (i := 43) (s' := .pv (.int .i64 ((i + 1 : Nat) : Int))) rfl (.int (wrap_succ (by omega)))
    obtain ⟨F, hS⟩ := hS.nm [42, 41, 6, 5, 4, 9, 8, 7, 43] [9, 0, 61] rfl rfl
    exact ⟨((i + 1), (q2), (la2)), F, ⟨by omega, ⟨by omega, hqn2⟩⟩, hS, by omega⟩
   have hkd : ¬ (Go.Gm.nth l i).kind = 0 := by simpa using hc2
   refine region_q hS
     (cF rfl (oM .t) r1 trivial
     (cF rfl (oF 1 101 .is) r1 r1
     (cF rfl (oL false 1 101 .adr) r1 r1
     (cF rfl (oF 2 101 .is) r1 r1
     (cF rfl (oL false 1 101 .adr) r1 r1
     (cF rfl (o_callG1 61 (drop_c b1 (roomN n) q la (Go.Gm.nth l i).u (Go.Gm.nth l i).v) Tryd.func13 rfl (by kernel_rfl) (Args.three .t .t .t)) r3 r1
     (cF rfl (oN .t) r1 trivial
     Chain.nil)))))))
     hB ?_
   clear hS; intro a w F hS
   obtain ⟨F, hS⟩ := hS.nm [43, 42, 41, 14, 13, 11, 9, 8, 7, 6, 5, 4] [101, 61, 9, 0] rfl rfl
   try dsimp only [List.map, xD, xE, xT, xU, ldSF, rPair, rDeed4, rInt, rRow] at hS
   rw [stepQ_kind1 hkd, lastD_kind1 hkd] at hS
   obtain ⟨q2, hq2⟩ : ∃ z, z = (stepQ (roomN n) q (Go.Gm.nth l i)).1 := ⟨_, rfl⟩
   obtain ⟨la2, hla2⟩ : ∃ z, z = lastD (roomN n) q la (Go.Gm.nth l i) := ⟨_, rfl⟩
   rw [← hq2, ← hla2] at hS
   have hqn2 : InN (roomN n) q2 := by rw [hq2]; exact stepQ_in hqn
   have hql2 : q2.length ≤ i + 1 := by have := stepQ_len (roomN n) q (Go.Gm.nth l i); rw [← hq2] at this; omega
   refine then_n (wp_seq (wp_seq ?_))
   refine region_q hS
     (cF rfl (oM .t) r1 trivial
     (cF rfl (o_eql .t (.ci (by kernel_rfl))) r1 trivial
     Chain.nil))
     hB ?_
   clear hS; intro a w F hS
   obtain ⟨F, hS⟩ := hS.nm [71, 43, 42, 41, 14, 13, 11, 9, 8, 7, 6, 5, 4] [101, 61, 9, 0] rfl rfl
   try dsimp only [rPair, rDeed4, rInt, rRow] at hS
   refine then_n ?_
   refine cond_b hS rfl (fun hc12 => ?_) (fun hc12 => ?_)
   ·skip
    have he0 : (stepQ (roomN n) q (Go.Gm.nth l i)).2 = 0 := by simpa using hc12
    have hla3 : lastQ (roomN n) q q2 = la2 := by rw [hla2]; unfold lastD; rw [if_pos he0, hq2]
    refine wp_seq ?_
    refine region_q hS
      (cF rfl (oM .t) r1 trivial
      (cF rfl (oM .t) r1 trivial
      (cF rfl (oP (rows24_c (roomN n) q2 (roomN_le n) (by omega)) Tryd.func10 (Args.two .t .t)) r2 trivial
      (cF rfl (oN .t) r1 trivial
      Chain.nil))))
      hB ?_
    clear hS; intro a w F hS
    obtain ⟨F, hS⟩ := hS.nm [43, 42, 41, 15, 14, 13, 11, 9, 8, 7, 6, 5, 4] [101, 61, 9, 0] rfl rfl
    try dsimp only [rPair, rDeed4, rInt, rRow] at hS
    refine then_n (wp_seq ?_)
    refine region_q hS
      (cF rfl (oM .t) r1 trivial
      (cF rfl (oM .t) r1 trivial
      (cF rfl (oP (other24_c (rowsQ q (roomN n)) (rowsQ q2 (roomN n)) (by rw [rowsQ_len]; omega) (by rw [rowsQ_len, rowsQ_len])) Tryd.func14 (Args.two .t .t)) r2 trivial
      (cF rfl (oN .t) r1 trivial
      Chain.nil))))
      hB ?_
    clear hS; intro a w F hS
    obtain ⟨F, hS⟩ := hS.nm [43, 42, 41, 15, 14, 13, 11, 9, 8, 7, 6, 5, 4] [101, 61, 9, 0] rfl rfl
    try dsimp only [rPair, rDeed4, rInt, rRow] at hS
    rw [show otherL (rowsQ q (roomN n)) (rowsQ q2 (roomN n)) = la2 from hla3] at hS
    refine then_n ?_
    refine region_q hS
      (cF rfl (oM .t) r1 trivial
      (cF rfl (oN .t) r1 trivial
      Chain.nil))
      hB ?_
    clear hS; intro a w F hS
    obtain ⟨F, hS⟩ := hS.nm [43, 42, 41, 14, 13, 11, 9, 8, 7, 6, 5, 4] [101, 61, 9, 0] rfl rfl
    try dsimp only [rPair, rDeed4, rInt, rRow] at hS
    refine then_n (wp_seq (wp_seq ?_))
    refine region_any (by kernel_rfl) hS (by kernel_rfl)
      (cF rfl (oM .t) r1 trivial
      (cF rfl (oM .t) r1 trivial
      (cF rfl (o_neq .t .t) r2 trivial
      (cF rfl (oM .t) r1 trivial
      (Chain.cons (Cert.cond rfl rfl (fun h => o_move .t (by rfl))) r2 trivial
      (Chain.cons (Cert.condR rfl rfl (by rfl) (fun h => o_callG1 61 (nodes_c b1 (roomN n) q2 la2) Tryd.func15 rfl (by kernel_rfl) (Args.one (.w h)))) r2 r1
      (Chain.cons (Cert.cond rfl rfl (fun h => o_move .t (by rfl))) r2 trivial
      (Chain.cons (Cert.cond rfl rfl (fun h => o_neq (.w h) (.w h))) r3 trivial
      (cF rfl (o_or2 .t .t) r2 trivial
      (cF rfl (oM .t) r1 trivial
      (Chain.cons (Cert.cond rfl rfl (fun h => o_move .t (by rfl))) r2 trivial
      (Chain.cons (Cert.cond rfl rfl (fun h => o_fieldAddr (off := 1) 101 .is (by kernel_rfl) (by rfl))) r2 r1
      (Chain.cons (Cert.cond rfl rfl (fun h => o_load (ag := false) (sz := 1) 101 (.w h .adr) (by kernel_rfl) (by kernel_rfl) (by kernel_rfl) (by rfl))) r2 r1
      (Chain.cons (Cert.cond rfl rfl (fun h => o_fieldAddr (off := 2) 101 .is (by kernel_rfl) (by rfl))) r2 r1
      (Chain.cons (Cert.cond rfl rfl (fun h => o_load (ag := false) (sz := 1) 101 (.w h .adr) (by kernel_rfl) (by kernel_rfl) (by kernel_rfl) (by rfl))) r2 r1
      (Chain.cons (Cert.condR rfl rfl (by rfl) (fun h => o_callG1 61 (arcs_c b1 (roomN n) q2 la2 (Go.Gm.nth l i).u (Go.Gm.nth l i).v) Tryd.func16 rfl (by kernel_rfl) (Args.three (.w h) (.w h) (.w h)))) r4 r1
      (Chain.cons (Cert.cond rfl rfl (fun h => o_move .t (by rfl))) r2 trivial
      (Chain.cons (Cert.cond rfl rfl (fun h => o_fieldAddr (off := 1) 101 .is (by kernel_rfl) (by rfl))) r2 r1
      (Chain.cons (Cert.cond rfl rfl (fun h => o_load (ag := false) (sz := 1) 101 (.w h .adr) (by kernel_rfl) (by kernel_rfl) (by kernel_rfl) (by rfl))) r2 r1
      (Chain.cons (Cert.cond rfl rfl (fun h => o_fieldAddr (off := 2) 101 .is (by kernel_rfl) (by rfl))) r2 r1
      (Chain.cons (Cert.cond rfl rfl (fun h => o_load (ag := false) (sz := 1) 101 (.w h .adr) (by kernel_rfl) (by kernel_rfl) (by kernel_rfl) (by rfl))) r2 r1
      (Chain.cons (Cert.cond rfl rfl (fun h => o_callP (count24_c q2 (Go.Gm.nth l i).u (Go.Gm.nth l i).v) Tryd.func17 rfl (by kernel_rfl) (Args.three (.w h) (.w h) (.w h)))) r4 trivial
      (Chain.cons (Cert.cond rfl rfl (fun h => o_neq (.w h) (.w h))) r3 trivial
      (cF rfl (o_or2 .t .t) r2 trivial
      (cF rfl (oM .t) r1 trivial
      (Chain.cons (Cert.cond rfl rfl (fun h => o_move .t (by rfl))) r2 trivial
      (Chain.cons (Cert.condR rfl rfl (by rfl) (fun h => o_callG1 61 (last_c b1 (roomN n) q2 la2) Tryd.func19 rfl (by kernel_rfl) (Args.one (.w h)))) r2 r1
      (Chain.cons (Cert.cond rfl rfl (fun h => o_move .t (by rfl))) r2 trivial
      (Chain.cons (Cert.cond rfl rfl (fun h => o_callP (sameInts_c la2 la2) Tryd.func18 rfl (by kernel_rfl) (Args.two (.w h) (.w h)))) r3 trivial
      (Chain.cons (Cert.cond rfl rfl (fun h => o_not (.w h))) r2 trivial
      (cF rfl (o_or2 .t .t) r2 trivial
      Chain.nil)))))))))))))))))))))))))))))))
      (by kernel_rfl) (by rw [hB]; kernel_rfl) ?_
    clear hS; intro a w F hS
    obtain ⟨F, hS⟩ := hS.nm [109, 43, 42, 41, 11, 9, 8, 7, 6, 5, 4] [101, 61, 9, 0] rfl rfl
    try dsimp only [List.map, xD, xE, xT, xU, ldSF, rPair, rDeed4, rInt, rRow] at hS
    refine then_n ?_
    refine cond_b hS rfl (fun hc13 => ?_) (fun hc13 => ?_)
    ·skip
     rw [arcs_all hqn2] at hc13
     simp at hc13
    refine wp_skip (then_n (wp_seq (wp_seq ?_)))
    refine region_q hS
      (cF rfl (oM .t) r1 trivial
      (cF rfl (o_len_sl Tryd.underlying28 .t) r1 trivial
      (cF rfl (oM (.ci (by kernel_rfl))) trivial trivial
      Chain.nil)))
      hB ?_
    clear hS; intro a w F hS
    obtain ⟨F, hS⟩ := hS.nm [112, 111, 110, 43, 42, 41, 11, 9, 8, 7, 6, 5, 4] [101, 61, 9, 0] rfl rfl
    try dsimp only [rPair, rDeed4, rInt, rRow] at hS
    refine then_n (wp_block ?_)
    refine loop_keep (σ := (Nat)) [4, 5, 6, 7, 8, 9, 11, 41, 42, 43, 110, 111] [0, 9, 61, 101] (fun s => [(112, .pv (.int .i64 (s : Int)))]) (fun s => []) (fun s => s ≤ (rowsQ q2 (roomN n)).length ∧ (True)) (fun s => (rowsQ q2 (roomN n)).length - s) (0) hS ⟨rfl, rfl, rfl, rfl, rfl, rfl, rfl, rfl, rfl, rfl, rfl, rfl, rfl, trivial⟩ ⟨rfl, rfl, rfl, rfl, trivial⟩ ⟨Nat.zero_le _, trivial⟩ ?_
    clear hS; intro k a w F hC hS
    try dsimp only at hC
    obtain ⟨F, hS⟩ := hS.nm [112, 111, 110, 43, 42, 41, 11, 9, 8, 7, 6, 5, 4] [101, 61, 9, 0] rfl rfl
    try dsimp only at hS
    obtain ⟨hi, hq⟩ := hC
    refine wp_seq ?_
    refine region_q hS
      (cF rfl (o_lss .t .t) r2 trivial
      Chain.nil)
      hB ?_
    clear hS; intro a w F hS
    obtain ⟨F, hS⟩ := hS.nm [113, 112, 111, 110, 43, 42, 41, 11, 9, 8, 7, 6, 5, 4] [101, 61, 9, 0] rfl rfl
    try dsimp only [rPair, rDeed4, rInt, rRow] at hS
    refine then_n (wp_seq ?_)
    refine cond_b hS rfl (fun hc14 => ?_) (fun hc14 => ?_)
    ·skip
     have hil : k < (rowsQ q2 (roomN n)).length := by simp at hc14; omega
     have hkm : k < (roomN n) := by rw [rowsQ_len] at hil; omega
     have hrn : Go.Gm.nth (rowsQ q2 (roomN n)) k = reachQ q2 (k : Int) := rowsQ_nth hkm
     have hrb : rowB (roomN n) q2 (k : Int) = Go.Gm.nth (rowsQ q2 (roomN n)) k := by rw [hrn]; exact if_pos ⟨by omega, by omega⟩
     have hre : reachB (roomN n) q2 (k : Int) (Go.Gm.nth l i).v = decide ((Go.Gm.nth l i).v ∈ Go.Gm.nth (rowsQ q2 (roomN n)) k) := by rw [hrn]; unfold reachB; rw [decide_eq_decide]; exact ⟨fun h => h.2, fun h => ⟨⟨by omega, by omega⟩, h⟩⟩
     refine wp_skip (then_n (wp_seq (wp_block (wp_seq ?_))))
     refine region_q hS
       (cF rfl (oM .t) r1 trivial
       (cF rfl (o_indexAddr_sl (sz := 1) (.mk Tryd.underlying28 (by kernel_rfl)) (by intro x; rfl) .t .t (by omega) (by omega)) r2 trivial
       (cF rfl (oR false 1 .t) r1 trivial
       (cF rfl (oN .t) r1 trivial
       (cF rfl (oN .t) r1 trivial
       Chain.nil)))))
       hB ?_
     clear hS; intro a w F hS
     obtain ⟨F, hS⟩ := hS.nm [112, 111, 110, 43, 42, 41, 17, 16, 11, 9, 8, 7, 6, 5, 4] [101, 61, 9, 0] rfl rfl
     try dsimp only [List.map, xD, xE, xT, xU, ldSF, rPair, rDeed4, rInt, rRow] at hS
     try simp only [Int.toNat_natCast] at hS
     refine then_n (wp_seq ?_)
     refine region_any (by kernel_rfl) hS (by kernel_rfl)
       (cF rfl (oM .t) r1 trivial
       (cF rfl (oM .t) r1 trivial
       (cF rfl (o_callG1 61 (crow_c b1 (roomN n) q2 la2 (k : Int)) Tryd.func20 rfl (by kernel_rfl) (Args.two .t .t)) r2 r1
       (cF rfl (oM .t) r1 trivial
       (cF rfl (oP (sameInts_c (rowB (roomN n) q2 (k : Int)) (Go.Gm.nth (rowsQ q2 (roomN n)) k)) Tryd.func18 (Args.two .t .t)) r2 trivial
       (cF rfl (o_not .t) r1 trivial
       (cF rfl (oM .t) r1 trivial
       (Chain.cons (Cert.cond rfl rfl (fun h => o_move .t (by rfl))) r2 trivial
       (Chain.cons (Cert.cond rfl rfl (fun h => o_move .t (by rfl))) r2 trivial
       (Chain.cons (Cert.cond rfl rfl (fun h => o_fieldAddr (off := 2) 101 .is (by kernel_rfl) (by rfl))) r2 r1
       (Chain.cons (Cert.cond rfl rfl (fun h => o_load (ag := false) (sz := 1) 101 (.w h .adr) (by kernel_rfl) (by kernel_rfl) (by kernel_rfl) (by rfl))) r2 r1
       (Chain.cons (Cert.condR rfl rfl (by rfl) (fun h => o_callG1 61 (reaches_c b1 (roomN n) q2 la2 (k : Int) (Go.Gm.nth l i).v) Tryd.func21 rfl (by kernel_rfl) (Args.three (.w h) (.w h) (.w h)))) r4 r1
       (Chain.cons (Cert.cond rfl rfl (fun h => o_move .t (by rfl))) r2 trivial
       (Chain.cons (Cert.cond rfl rfl (fun h => o_fieldAddr (off := 2) 101 .is (by kernel_rfl) (by rfl))) r2 r1
       (Chain.cons (Cert.cond rfl rfl (fun h => o_load (ag := false) (sz := 1) 101 (.w h .adr) (by kernel_rfl) (by kernel_rfl) (by kernel_rfl) (by rfl))) r2 r1
       (Chain.cons (Cert.cond rfl rfl (fun h => o_callP (in_c (Go.Gm.nth (rowsQ q2 (roomN n)) k) (Go.Gm.nth l i).v (by rw [hrn]; have := reachQ_len q2 (k : Int); omega)) Tryd.func22 rfl (by kernel_rfl) (Args.two (.w h) (.w h)))) r3 trivial
       (Chain.cons (Cert.cond rfl rfl (fun h => o_neqB Tryd.underlying4 (.w h) (.w h))) r3 trivial
       (cF rfl (o_or2 .t .t) r2 trivial
       Chain.nil))))))))))))))))))
       (by kernel_rfl) (by rw [hB]; kernel_rfl) ?_
     clear hS; intro a w F hS
     obtain ⟨F, hS⟩ := hS.nm [134, 112, 111, 110, 43, 42, 41, 11, 9, 8, 7, 6, 5, 4] [101, 61, 9, 0] rfl rfl
     try dsimp only [List.map, xD, xE, xT, xU, ldSF, rPair, rDeed4, rInt, rRow] at hS
     refine then_n ?_
     refine cond_b hS rfl (fun hc15 => ?_) (fun hc15 => ?_)
     ·skip
      rw [hrb, hre] at hc15
      simp at hc15
     refine wp_skip (block_n (then_n ?_))
     refine region_q hS
       (cF rfl (o_add .t (.ci (by kernel_rfl))) r1 trivial
       (cF rfl (oM .t) r1 trivial
       Chain.nil))
       hB ?_
     clear hS; intro a w F hS
     obtain ⟨F, hS⟩ := hS.nm [112, 111, 110, 43, 42, 41, 11, 9, 8, 7, 6, 5, 4] [101, 61, 9, 0] rfl rfl
     try dsimp only [rPair, rDeed4, rInt, rRow] at hS
     refine then_n ?_
     replace hS := hS.ent (i := 112) (s' := .pv (.int .i64 ((k + 1 : Nat) : Int))) rfl (.int (wrap_succ (by omega)))
     obtain ⟨F, hS⟩ := hS.nm [111, 110, 43, 42, 41, 11, 9, 8, 7, 6, 5, 4, 112] [101, 61, 9, 0] rfl rfl
     exact ⟨(k + 1), F, ⟨by omega, trivial⟩, hS, by omega⟩
    have hil : k = (rowsQ q2 (roomN n)).length := by simp at hc14; omega
    refine wp_exit (then_x (then_x (block_x (then_n (wp_seq ?_)))))
    refine region_q hS
      (cF rfl (oM .t) r1 trivial
      (cF rfl (oF 1 101 .is) r1 r1
      (cF rfl (oL false 1 101 .adr) r1 r1
      (cF rfl (oP (there24_c (roomN n) (Go.Gm.nth l i).u) Tryd.func23 (Args.two .t .t)) r2 trivial
      (cF rfl (o_not .t) r1 trivial
      (cF rfl (oM .t) r1 trivial
      (Chain.cons (Cert.cond rfl rfl (fun h => o_move .t (by rfl))) r2 trivial
      (Chain.cons (Cert.cond rfl rfl (fun h => o_fieldAddr (off := 1) 101 .is (by kernel_rfl) (by rfl))) r2 r1
      (Chain.cons (Cert.cond rfl rfl (fun h => o_load (ag := false) (sz := 1) 101 (.w h .adr) (by kernel_rfl) (by kernel_rfl) (by kernel_rfl) (by rfl))) r2 r1
      (Chain.cons (Cert.condR rfl rfl (by rfl) (fun h => o_callG1 61 (crow_c b1 (roomN n) q2 la2 (Go.Gm.nth l i).u) Tryd.func20 rfl (by kernel_rfl) (Args.two (.w h) (.w h)))) r3 r1
      (Chain.cons (Cert.cond rfl rfl (fun h => o_len_sl Tryd.underlying30 (.w h))) r2 trivial
      (Chain.cons (Cert.cond rfl rfl (fun h => o_neq (.w h) (.ci (by kernel_rfl)))) r2 trivial
      (cF rfl (o_and2 .t .t) r2 trivial
      Chain.nil)))))))))))))
      hB ?_
    clear hS; intro a w F hS
    obtain ⟨F, hS⟩ := hS.nm [148, 43, 42, 41, 9, 8, 7, 6, 5, 4] [61, 9, 0] rfl rfl
    try dsimp only [List.map, xD, xE, xT, xU, ldSF, rPair, rDeed4, rInt, rRow] at hS
    refine then_n ?_
    refine cond_b hS rfl (fun hc16 => ?_) (fun hc16 => ?_)
    ·skip
     have hb2 := hc16
     rw [Bool.and_eq_true] at hb2
     have hnt : ¬ There (roomN n) (Go.Gm.nth l i).u := by intro h9; simp [h9] at hb2
     have hb3 := hb2.2
     rw [show rowB (roomN n) q2 (Go.Gm.nth l i).u = [] from if_neg hnt] at hb3
     simp at hb3
    refine wp_skip (block_n (then_n ?_))
    refine region_q hS
      (cF rfl (o_add .t (.ci (by kernel_rfl))) r1 trivial
      (cF rfl (oM .t) r1 trivial
      Chain.nil))
      hB ?_
    clear hS; intro a w F hS
    obtain ⟨F, hS⟩ := hS.nm [43, 42, 41, 9, 8, 7, 6, 5, 4] [61, 9, 0] rfl rfl
    try dsimp only [rPair, rDeed4, rInt, rRow] at hS
    refine then_n ?_
    replace hS := hS.ent (i := 43) (s' := .pv (.int .i64 ((i + 1 : Nat) : Int))) rfl (.int (wrap_succ (by omega)))
    obtain ⟨F, hS⟩ := hS.nm [42, 41, 6, 5, 4, 9, 8, 7, 43] [9, 0, 61] rfl rfl
    exact ⟨((i + 1), (q2), (la2)), F, ⟨by omega, ⟨by omega, hqn2⟩⟩, hS, by omega⟩
   have he0 : ¬ (stepQ (roomN n) q (Go.Gm.nth l i)).2 = 0 := by simpa using hc12
   have hqs : q = q2 := by rw [hq2]; exact (stepQ_same he0).symm
   have hls2 : la = la2 := by rw [hla2]; unfold lastD; rw [if_neg he0]
   replace hS := hS.ent (i := 8) (s' := .pv (.sl rRow (rowsQ q2 (roomN n)))) rfl (Ent.eqSl (by rw [← hqs]))
   replace hS := hS.ent (i := 9) (s' := .pv (.sl rInt la2)) rfl (Ent.eqSl hls2)
   refine wp_skip (then_n (wp_seq (wp_seq ?_)))
   refine region_any (by kernel_rfl) hS (by kernel_rfl)
     (cF rfl (oM .t) r1 trivial
     (cF rfl (oM .t) r1 trivial
     (cF rfl (o_neq .t .t) r2 trivial
     (cF rfl (oM .t) r1 trivial
     (Chain.cons (Cert.cond rfl rfl (fun h => o_move .t (by rfl))) r2 trivial
     (Chain.cons (Cert.condR rfl rfl (by rfl) (fun h => o_callG1 61 (nodes_c b1 (roomN n) q2 la2) Tryd.func15 rfl (by kernel_rfl) (Args.one (.w h)))) r2 r1
     (Chain.cons (Cert.cond rfl rfl (fun h => o_move .t (by rfl))) r2 trivial
     (Chain.cons (Cert.cond rfl rfl (fun h => o_neq (.w h) (.w h))) r3 trivial
     (cF rfl (o_or2 .t .t) r2 trivial
     (cF rfl (oM .t) r1 trivial
     (Chain.cons (Cert.cond rfl rfl (fun h => o_move .t (by rfl))) r2 trivial
     (Chain.cons (Cert.cond rfl rfl (fun h => o_fieldAddr (off := 1) 101 .is (by kernel_rfl) (by rfl))) r2 r1
     (Chain.cons (Cert.cond rfl rfl (fun h => o_load (ag := false) (sz := 1) 101 (.w h .adr) (by kernel_rfl) (by kernel_rfl) (by kernel_rfl) (by rfl))) r2 r1
     (Chain.cons (Cert.cond rfl rfl (fun h => o_fieldAddr (off := 2) 101 .is (by kernel_rfl) (by rfl))) r2 r1
     (Chain.cons (Cert.cond rfl rfl (fun h => o_load (ag := false) (sz := 1) 101 (.w h .adr) (by kernel_rfl) (by kernel_rfl) (by kernel_rfl) (by rfl))) r2 r1
     (Chain.cons (Cert.condR rfl rfl (by rfl) (fun h => o_callG1 61 (arcs_c b1 (roomN n) q2 la2 (Go.Gm.nth l i).u (Go.Gm.nth l i).v) Tryd.func16 rfl (by kernel_rfl) (Args.three (.w h) (.w h) (.w h)))) r4 r1
     (Chain.cons (Cert.cond rfl rfl (fun h => o_move .t (by rfl))) r2 trivial
     (Chain.cons (Cert.cond rfl rfl (fun h => o_fieldAddr (off := 1) 101 .is (by kernel_rfl) (by rfl))) r2 r1
     (Chain.cons (Cert.cond rfl rfl (fun h => o_load (ag := false) (sz := 1) 101 (.w h .adr) (by kernel_rfl) (by kernel_rfl) (by kernel_rfl) (by rfl))) r2 r1
     (Chain.cons (Cert.cond rfl rfl (fun h => o_fieldAddr (off := 2) 101 .is (by kernel_rfl) (by rfl))) r2 r1
     (Chain.cons (Cert.cond rfl rfl (fun h => o_load (ag := false) (sz := 1) 101 (.w h .adr) (by kernel_rfl) (by kernel_rfl) (by kernel_rfl) (by rfl))) r2 r1
     (Chain.cons (Cert.cond rfl rfl (fun h => o_callP (count24_c q2 (Go.Gm.nth l i).u (Go.Gm.nth l i).v) Tryd.func17 rfl (by kernel_rfl) (Args.three (.w h) (.w h) (.w h)))) r4 trivial
     (Chain.cons (Cert.cond rfl rfl (fun h => o_neq (.w h) (.w h))) r3 trivial
     (cF rfl (o_or2 .t .t) r2 trivial
     (cF rfl (oM .t) r1 trivial
     (Chain.cons (Cert.cond rfl rfl (fun h => o_move .t (by rfl))) r2 trivial
     (Chain.cons (Cert.condR rfl rfl (by rfl) (fun h => o_callG1 61 (last_c b1 (roomN n) q2 la2) Tryd.func19 rfl (by kernel_rfl) (Args.one (.w h)))) r2 r1
     (Chain.cons (Cert.cond rfl rfl (fun h => o_move .t (by rfl))) r2 trivial
     (Chain.cons (Cert.cond rfl rfl (fun h => o_callP (sameInts_c la2 la2) Tryd.func18 rfl (by kernel_rfl) (Args.two (.w h) (.w h)))) r3 trivial
     (Chain.cons (Cert.cond rfl rfl (fun h => o_not (.w h))) r2 trivial
     (cF rfl (o_or2 .t .t) r2 trivial
     Chain.nil)))))))))))))))))))))))))))))))
     (by kernel_rfl) (by rw [hB]; kernel_rfl) ?_
   clear hS; intro a w F hS
   obtain ⟨F, hS⟩ := hS.nm [109, 43, 42, 41, 11, 9, 8, 7, 6, 5, 4] [101, 61, 9, 0] rfl rfl
   try dsimp only [List.map, xD, xE, xT, xU, ldSF, rPair, rDeed4, rInt, rRow] at hS
   refine then_n ?_
   refine cond_b hS rfl (fun hc17 => ?_) (fun hc17 => ?_)
   ·skip
    rw [arcs_all hqn2] at hc17
    simp at hc17
   refine wp_skip (then_n (wp_seq (wp_seq ?_)))
   refine region_q hS
     (cF rfl (oM .t) r1 trivial
     (cF rfl (o_len_sl Tryd.underlying28 .t) r1 trivial
     (cF rfl (oM (.ci (by kernel_rfl))) trivial trivial
     Chain.nil)))
     hB ?_
   clear hS; intro a w F hS
   obtain ⟨F, hS⟩ := hS.nm [112, 111, 110, 43, 42, 41, 11, 9, 8, 7, 6, 5, 4] [101, 61, 9, 0] rfl rfl
   try dsimp only [rPair, rDeed4, rInt, rRow] at hS
   refine then_n (wp_block ?_)
   refine loop_keep (σ := (Nat)) [4, 5, 6, 7, 8, 9, 11, 41, 42, 43, 110, 111] [0, 9, 61, 101] (fun s => [(112, .pv (.int .i64 (s : Int)))]) (fun s => []) (fun s => s ≤ (rowsQ q2 (roomN n)).length ∧ (True)) (fun s => (rowsQ q2 (roomN n)).length - s) (0) hS ⟨rfl, rfl, rfl, rfl, rfl, rfl, rfl, rfl, rfl, rfl, rfl, rfl, rfl, trivial⟩ ⟨rfl, rfl, rfl, rfl, trivial⟩ ⟨Nat.zero_le _, trivial⟩ ?_
   clear hS; intro k a w F hC hS
   try dsimp only at hC
   obtain ⟨F, hS⟩ := hS.nm [112, 111, 110, 43, 42, 41, 11, 9, 8, 7, 6, 5, 4] [101, 61, 9, 0] rfl rfl
   try dsimp only at hS
   obtain ⟨hi, hq⟩ := hC
   refine wp_seq ?_
   refine region_q hS
     (cF rfl (o_lss .t .t) r2 trivial
     Chain.nil)
     hB ?_
   clear hS; intro a w F hS
   obtain ⟨F, hS⟩ := hS.nm [113, 112, 111, 110, 43, 42, 41, 11, 9, 8, 7, 6, 5, 4] [101, 61, 9, 0] rfl rfl
   try dsimp only [rPair, rDeed4, rInt, rRow] at hS
   refine then_n (wp_seq ?_)
   refine cond_b hS rfl (fun hc18 => ?_) (fun hc18 => ?_)
   ·skip
    have hil : k < (rowsQ q2 (roomN n)).length := by simp at hc18; omega
    have hkm : k < (roomN n) := by rw [rowsQ_len] at hil; omega
    have hrn : Go.Gm.nth (rowsQ q2 (roomN n)) k = reachQ q2 (k : Int) := rowsQ_nth hkm
    have hrb : rowB (roomN n) q2 (k : Int) = Go.Gm.nth (rowsQ q2 (roomN n)) k := by rw [hrn]; exact if_pos ⟨by omega, by omega⟩
    have hre : reachB (roomN n) q2 (k : Int) (Go.Gm.nth l i).v = decide ((Go.Gm.nth l i).v ∈ Go.Gm.nth (rowsQ q2 (roomN n)) k) := by rw [hrn]; unfold reachB; rw [decide_eq_decide]; exact ⟨fun h => h.2, fun h => ⟨⟨by omega, by omega⟩, h⟩⟩
    refine wp_skip (then_n (wp_seq (wp_block (wp_seq ?_))))
    refine region_q hS
      (cF rfl (oM .t) r1 trivial
      (cF rfl (o_indexAddr_sl (sz := 1) (.mk Tryd.underlying28 (by kernel_rfl)) (by intro x; rfl) .t .t (by omega) (by omega)) r2 trivial
      (cF rfl (oR false 1 .t) r1 trivial
      (cF rfl (oN .t) r1 trivial
      (cF rfl (oN .t) r1 trivial
      Chain.nil)))))
      hB ?_
    clear hS; intro a w F hS
    obtain ⟨F, hS⟩ := hS.nm [112, 111, 110, 43, 42, 41, 17, 16, 11, 9, 8, 7, 6, 5, 4] [101, 61, 9, 0] rfl rfl
    try dsimp only [List.map, xD, xE, xT, xU, ldSF, rPair, rDeed4, rInt, rRow] at hS
    try simp only [Int.toNat_natCast] at hS
    refine then_n (wp_seq ?_)
    refine region_any (by kernel_rfl) hS (by kernel_rfl)
      (cF rfl (oM .t) r1 trivial
      (cF rfl (oM .t) r1 trivial
      (cF rfl (o_callG1 61 (crow_c b1 (roomN n) q2 la2 (k : Int)) Tryd.func20 rfl (by kernel_rfl) (Args.two .t .t)) r2 r1
      (cF rfl (oM .t) r1 trivial
      (cF rfl (oP (sameInts_c (rowB (roomN n) q2 (k : Int)) (Go.Gm.nth (rowsQ q2 (roomN n)) k)) Tryd.func18 (Args.two .t .t)) r2 trivial
      (cF rfl (o_not .t) r1 trivial
      (cF rfl (oM .t) r1 trivial
      (Chain.cons (Cert.cond rfl rfl (fun h => o_move .t (by rfl))) r2 trivial
      (Chain.cons (Cert.cond rfl rfl (fun h => o_move .t (by rfl))) r2 trivial
      (Chain.cons (Cert.cond rfl rfl (fun h => o_fieldAddr (off := 2) 101 .is (by kernel_rfl) (by rfl))) r2 r1
      (Chain.cons (Cert.cond rfl rfl (fun h => o_load (ag := false) (sz := 1) 101 (.w h .adr) (by kernel_rfl) (by kernel_rfl) (by kernel_rfl) (by rfl))) r2 r1
      (Chain.cons (Cert.condR rfl rfl (by rfl) (fun h => o_callG1 61 (reaches_c b1 (roomN n) q2 la2 (k : Int) (Go.Gm.nth l i).v) Tryd.func21 rfl (by kernel_rfl) (Args.three (.w h) (.w h) (.w h)))) r4 r1
      (Chain.cons (Cert.cond rfl rfl (fun h => o_move .t (by rfl))) r2 trivial
      (Chain.cons (Cert.cond rfl rfl (fun h => o_fieldAddr (off := 2) 101 .is (by kernel_rfl) (by rfl))) r2 r1
      (Chain.cons (Cert.cond rfl rfl (fun h => o_load (ag := false) (sz := 1) 101 (.w h .adr) (by kernel_rfl) (by kernel_rfl) (by kernel_rfl) (by rfl))) r2 r1
      (Chain.cons (Cert.cond rfl rfl (fun h => o_callP (in_c (Go.Gm.nth (rowsQ q2 (roomN n)) k) (Go.Gm.nth l i).v (by rw [hrn]; have := reachQ_len q2 (k : Int); omega)) Tryd.func22 rfl (by kernel_rfl) (Args.two (.w h) (.w h)))) r3 trivial
      (Chain.cons (Cert.cond rfl rfl (fun h => o_neqB Tryd.underlying4 (.w h) (.w h))) r3 trivial
      (cF rfl (o_or2 .t .t) r2 trivial
      Chain.nil))))))))))))))))))
      (by kernel_rfl) (by rw [hB]; kernel_rfl) ?_
    clear hS; intro a w F hS
    obtain ⟨F, hS⟩ := hS.nm [134, 112, 111, 110, 43, 42, 41, 11, 9, 8, 7, 6, 5, 4] [101, 61, 9, 0] rfl rfl
    try dsimp only [List.map, xD, xE, xT, xU, ldSF, rPair, rDeed4, rInt, rRow] at hS
    refine then_n ?_
    refine cond_b hS rfl (fun hc19 => ?_) (fun hc19 => ?_)
    ·skip
     rw [hrb, hre] at hc19
     simp at hc19
    refine wp_skip (block_n (then_n ?_))
    refine region_q hS
      (cF rfl (o_add .t (.ci (by kernel_rfl))) r1 trivial
      (cF rfl (oM .t) r1 trivial
      Chain.nil))
      hB ?_
    clear hS; intro a w F hS
    obtain ⟨F, hS⟩ := hS.nm [112, 111, 110, 43, 42, 41, 11, 9, 8, 7, 6, 5, 4] [101, 61, 9, 0] rfl rfl
    try dsimp only [rPair, rDeed4, rInt, rRow] at hS
    refine then_n ?_
    replace hS := hS.ent (i := 112) (s' := .pv (.int .i64 ((k + 1 : Nat) : Int))) rfl (.int (wrap_succ (by omega)))
    obtain ⟨F, hS⟩ := hS.nm [111, 110, 43, 42, 41, 11, 9, 8, 7, 6, 5, 4, 112] [101, 61, 9, 0] rfl rfl
    exact ⟨(k + 1), F, ⟨by omega, trivial⟩, hS, by omega⟩
   have hil : k = (rowsQ q2 (roomN n)).length := by simp at hc18; omega
   refine wp_exit (then_x (then_x (block_x (then_n (wp_seq ?_)))))
   refine region_q hS
     (cF rfl (oM .t) r1 trivial
     (cF rfl (oF 1 101 .is) r1 r1
     (cF rfl (oL false 1 101 .adr) r1 r1
     (cF rfl (oP (there24_c (roomN n) (Go.Gm.nth l i).u) Tryd.func23 (Args.two .t .t)) r2 trivial
     (cF rfl (o_not .t) r1 trivial
     (cF rfl (oM .t) r1 trivial
     (Chain.cons (Cert.cond rfl rfl (fun h => o_move .t (by rfl))) r2 trivial
     (Chain.cons (Cert.cond rfl rfl (fun h => o_fieldAddr (off := 1) 101 .is (by kernel_rfl) (by rfl))) r2 r1
     (Chain.cons (Cert.cond rfl rfl (fun h => o_load (ag := false) (sz := 1) 101 (.w h .adr) (by kernel_rfl) (by kernel_rfl) (by kernel_rfl) (by rfl))) r2 r1
     (Chain.cons (Cert.condR rfl rfl (by rfl) (fun h => o_callG1 61 (crow_c b1 (roomN n) q2 la2 (Go.Gm.nth l i).u) Tryd.func20 rfl (by kernel_rfl) (Args.two (.w h) (.w h)))) r3 r1
     (Chain.cons (Cert.cond rfl rfl (fun h => o_len_sl Tryd.underlying30 (.w h))) r2 trivial
     (Chain.cons (Cert.cond rfl rfl (fun h => o_neq (.w h) (.ci (by kernel_rfl)))) r2 trivial
     (cF rfl (o_and2 .t .t) r2 trivial
     Chain.nil)))))))))))))
     hB ?_
   clear hS; intro a w F hS
   obtain ⟨F, hS⟩ := hS.nm [148, 43, 42, 41, 9, 8, 7, 6, 5, 4] [61, 9, 0] rfl rfl
   try dsimp only [List.map, xD, xE, xT, xU, ldSF, rPair, rDeed4, rInt, rRow] at hS
   refine then_n ?_
   refine cond_b hS rfl (fun hc20 => ?_) (fun hc20 => ?_)
   ·skip
    have hb2 := hc20
    rw [Bool.and_eq_true] at hb2
    have hnt : ¬ There (roomN n) (Go.Gm.nth l i).u := by intro h9; simp [h9] at hb2
    have hb3 := hb2.2
    rw [show rowB (roomN n) q2 (Go.Gm.nth l i).u = [] from if_neg hnt] at hb3
    simp at hb3
   refine wp_skip (block_n (then_n ?_))
   refine region_q hS
     (cF rfl (o_add .t (.ci (by kernel_rfl))) r1 trivial
     (cF rfl (oM .t) r1 trivial
     Chain.nil))
     hB ?_
   clear hS; intro a w F hS
   obtain ⟨F, hS⟩ := hS.nm [43, 42, 41, 9, 8, 7, 6, 5, 4] [61, 9, 0] rfl rfl
   try dsimp only [rPair, rDeed4, rInt, rRow] at hS
   refine then_n ?_
   replace hS := hS.ent (i := 43) (s' := .pv (.int .i64 ((i + 1 : Nat) : Int))) rfl (.int (wrap_succ (by omega)))
   obtain ⟨F, hS⟩ := hS.nm [42, 41, 6, 5, 4, 9, 8, 7, 43] [9, 0, 61] rfl rfl
   exact ⟨((i + 1), (q2), (la2)), F, ⟨by omega, ⟨by omega, hqn2⟩⟩, hS, by omega⟩
  have hil : i = l.length := by simp at hc1; omega
  refine wp_exit (then_x (then_x (block_x (then_n (wp_seq ?_)))))
  refine region_q hS
    (cF rfl (o_callPg 9 (lives_c) Tryd.func8 rfl (by kernel_rfl) Args.nil) trivial r1
    (cF rfl (oN .t) r1 trivial
    Chain.nil))
    hB ?_
  clear hS; intro a w F hS
  obtain ⟨F, hS⟩ := hS.nm [4] [61, 9, 0] rfl rfl
  try dsimp only [rPair, rDeed4, rInt, rRow] at hS
  refine then_n (wp_ret ?_)
  refine ret_P hfr hS rfl (.tmp rfl .nil) (.one (.bool (by first | rfl | simp)))

end Go.Proofs.YtpahapjcdldodaaDoor
