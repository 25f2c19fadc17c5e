/- Components: deeds. No condition beyond those that each theorem says. -/
import Derived.Test.YtpahapjcdldodaaDoorCoD
namespace Go.Proofs.YtpahapjcdldodaaDoor
open Go Go.Gm
set_option linter.unusedVariables false
set_option linter.unusedSimpArgs false
set_option maxHeartbeats 4000000
set_option maxRecDepth 8000


def stepC (n : Nat) (q : List PairD) (d : Deed4) : List PairD × Int := if d.kind = 2 then (q, 0) else stepQ n q d
def wasC (q q0 : List PairD) (d : Deed4) : List PairD := if d.kind = 2 then q else q0
theorem stepC_len (n : Nat) (q : List PairD) (d : Deed4) : (stepC n q d).1.length ≤ q.length + 1 := by
  unfold stepC
  split
  · exact Nat.le_succ _
  · exact stepQ_len n q d
theorem stepC_in {n : Nat} {q : List PairD} {d : Deed4} (h : InN n q) : InN n (stepC n q d).1 := by
  unfold stepC
  split
  · exact h
  · exact stepQ_in h
theorem wasC_in {n : Nat} {q q0 : List PairD} {d : Deed4} (h : InN n q) (h0 : InN n q0) : InN n (wasC q q0 d) := by
  unfold wasC
  split
  · exact h
  · exact h0

theorem there25_c (n : Nat) (u : Int) : FnP Tryd.prog 36 [.int .i64 (n : Int), .int .i64 u] (.bool (decide (There n u))) := by
  refine FnP.mk Tryd.func36 rfl Tryd.ntmps36 rfl ?_
  intro B a w F hB hfr hS
  refine wp_seq ?_
  refine region_q hS
    (cF rfl (oN .cb) trivial trivial
    Chain.nil)
    hB ?_
  clear hS; intro a w F hS
  obtain ⟨F, hS⟩ := hS.nm [4, 1, 0] [0] rfl rfl
  refine then_n (wp_seq ?_)
  refine region_q hS
    (cF rfl (oM .t) r1 trivial
    (cF rfl (o_geq .t (.ci (by kernel_rfl))) r1 trivial
    (cF rfl (oM .t) r1 trivial
    (Chain.cons (Cert.cond rfl rfl (fun h => o_move .t (by rfl))) r2 trivial
    (Chain.cons (Cert.cond rfl rfl (fun h => o_move .t (by rfl))) r2 trivial
    (Chain.cons (Cert.cond rfl rfl (fun h => o_lss (.w h) (.w h))) r3 trivial
    (cF rfl (o_and2 .t .t) r2 trivial
    (cF rfl (oN .t) r1 trivial
    Chain.nil))))))))
    hB ?_
  clear hS; intro a w F hS
  obtain ⟨F, hS⟩ := hS.nm [4] [0] rfl rfl
  refine then_n (wp_ret ?_)
  refine ret_P hfr hS rfl (.tmp rfl .nil) (.one (.bool (by unfold There; by_cases h : 0 ≤ u <;> simp [h])))

theorem step25_c (n : Nat) (q : List PairD) (d : Deed4) (hl : q.length ≤ 900000) : FnP Tryd.prog 27 [.int .i64 (n : Int), .sl rPair q, .agg (rDeed4 d)] (.tup [.sl rPair (stepC n q d).1, .int .i64 (stepC n q d).2]) := by
  refine FnP.mk Tryd.func27 rfl Tryd.ntmps27 rfl ?_
  intro B a w F hB hfr hS
  have hll := Sat.lenSl hS (i := 1) rfl
  refine wp_seq ?_
  refine region_q hS
    (cF rfl (oX 101 (.conv .t .agg)) r1 trivial
    (cF rfl (oN (.c rfl)) trivial trivial
    (cF rfl (oN (.ci (by kernel_rfl))) trivial trivial
    Chain.nil)))
    hB ?_
  clear hS; intro a w F hS
  replace hS := hS.sub
  obtain ⟨F, hS⟩ := hS.nm [7, 6, 5, 1, 0] [101, 0] rfl rfl
  try dsimp only [RS.sub, SF.sub, CF.sub, csub, Anc.sub, List.map, zCF, rPair, rDeed4] at hS
  generalize Act.tau a 5 = v5 at hS
  refine then_n (wp_seq (wp_seq ?_))
  refine region_q hS
    (cF rfl (oF 0 101 .is) r1 r1
    (cF rfl (oL false 1 101 .adr) r1 r1
    (cF rfl (o_eql .t (.ci (by kernel_rfl))) r1 trivial
    Chain.nil)))
    hB ?_
  clear hS; intro a w F hS
  obtain ⟨F, hS⟩ := hS.nm [10, 7, 6, 5, 1, 0] [101, 0] rfl rfl
  try dsimp only [List.map, xD, xE, xT, xU, ldSF, rPair, rDeed4] at hS
  refine then_n ?_
  refine cond_b hS rfl (fun hc0 => ?_) (fun hc0 => ?_)
  ·skip
   have hg : stepC n q d = (q, 0) := if_pos (by simpa using hc0)
   refine wp_seq ?_
   refine region_q hS
     (cF rfl (oM .t) r1 trivial
     (cF rfl (oN .t) r1 trivial
     (cF rfl (oN (.ci (by kernel_rfl))) trivial trivial
     Chain.nil)))
     hB ?_
   clear hS; intro a w F hS
   obtain ⟨F, hS⟩ := hS.nm [7, 6, 5, 1, 0] [101, 0] rfl rfl
   try dsimp only [rPair, rDeed4] at hS
   refine then_n (wp_ret (then_r ?_))
   refine ret_P hfr hS rfl (.tmp rfl (.tmp rfl .nil)) (.two (.sl (by rw [hg])) (.int (by rw [hg])))
  have hk2 : ¬ d.kind = 2 := by simpa using hc0
  refine wp_skip (then_n (wp_seq (wp_seq ?_)))
  refine region_q hS
    (cF rfl (oM .t) r1 trivial
    (cF rfl (oF 1 101 .is) r1 r1
    (cF rfl (oL false 1 101 .adr) r1 r1
    (cF rfl (oP (there25_c n d.u) Tryd.func36 (Args.two .t .t)) r2 trivial
    (cF rfl (o_not .t) r1 trivial
    (cF rfl (oM .t) r1 trivial
    (Chain.cons (Cert.cond rfl rfl (fun h => o_move .t (by rfl))) r2 trivial
    (Chain.cons (Cert.cond rfl rfl (fun h => o_fieldAddr (off := 2) 101 .is (by kernel_rfl) (by rfl))) r2 r1
    (Chain.cons (Cert.cond rfl rfl (fun h => o_load (ag := false) (sz := 1) 101 (.w h .adr) (by kernel_rfl) (by kernel_rfl) (by kernel_rfl) (by rfl))) r2 r1
    (Chain.cons (Cert.cond rfl rfl (fun h => o_callP (there25_c n d.v) Tryd.func36 rfl (by kernel_rfl) (Args.two (.w h) (.w h)))) r3 trivial
    (Chain.cons (Cert.cond rfl rfl (fun h => o_not (.w h))) r2 trivial
    (cF rfl (o_or2 .t .t) r2 trivial
    Chain.nil))))))))))))
    hB ?_
  clear hS; intro a w F hS
  obtain ⟨F, hS⟩ := hS.nm [23, 7, 6, 5, 1] [101, 0] rfl rfl
  try dsimp only [List.map, xD, xE, xT, xU, ldSF, rPair, rDeed4] at hS
  refine then_n ?_
  refine cond_b hS rfl (fun hc1 => ?_) (fun hc1 => ?_)
  ·skip
   have hg : stepC n q d = (q, 1) := by unfold stepC; rw [if_neg hk2]; exact stepQ_out (by rintro ⟨h1, h2⟩; simp [h1, h2] at hc1; try omega)
   refine wp_seq ?_
   refine region_q hS
     (cF rfl (oM .t) r1 trivial
     (cF rfl (oN .t) r1 trivial
     (cF rfl (oN (.ci (by kernel_rfl))) trivial trivial
     Chain.nil)))
     hB ?_
   clear hS; intro a w F hS
   obtain ⟨F, hS⟩ := hS.nm [7, 6, 5, 1] [101, 0] rfl rfl
   try dsimp only [rPair, rDeed4] at hS
   refine then_n (wp_ret (then_r ?_))
   refine ret_P hfr hS rfl (.tmp rfl (.tmp rfl .nil)) (.two (.sl (by rw [hg])) (.int (by rw [hg])))
  have hth : There n d.u ∧ There n d.v := by simp at hc1; omega
  refine wp_skip (then_n (wp_seq (wp_seq ?_)))
  refine region_q hS
    (cF rfl (oF 0 101 .is) r1 r1
    (cF rfl (oL false 1 101 .adr) r1 r1
    (cF rfl (o_eql .t (.ci (by kernel_rfl))) r1 trivial
    Chain.nil)))
    hB ?_
  clear hS; intro a w F hS
  obtain ⟨F, hS⟩ := hS.nm [27, 7, 6, 5, 1] [101, 0] rfl rfl
  try dsimp only [List.map, xD, xE, xT, xU, ldSF, rPair, rDeed4] at hS
  refine then_n ?_
  refine cond_b hS rfl (fun hc2 => ?_) (fun hc2 => ?_)
  ·skip
   have hg : stepC n q d = (q ++ [⟨d.u, d.v⟩], 0) := by unfold stepC; rw [if_neg hk2]; exact (by unfold stepQ; rw [if_pos hth, if_pos (by simpa using hc2)])
   refine wp_seq ?_
   refine region_any (by kernel_rfl) hS (by kernel_rfl)
     (cF rfl (o_buildSlice0 (R := rPair) (sz := 2) 102 Tryd.underlying27 (by kernel_rfl)) trivial trivial
     (cF rfl (oM .t) r1 trivial
     (cF rfl (o_append (sz := 2) (bs := 16) 102 (.mk' Tryd.underlying27 (by kernel_rfl) (by kernel_rfl)) (by intro x; rfl) .same (.sl .t) (by simp only [List.length_append, List.length_cons, List.length_nil]; omega) (by decide)) ⟨rfl, rfl, trivial⟩ ⟨rfl, trivial⟩
     (cF rfl (oF 1 101 .is) r1 r1
     (cF rfl (oL false 1 101 .adr) r1 r1
     (cF rfl (oF 2 101 .is) r1 r1
     (cF rfl (oL false 1 101 .adr) r1 r1
     (cF rfl (oB [(0, .tmp 32), (1, .tmp 34)] [.int .i64 0, .int .i64 0] [(0, 1), (1, 1)] (.one rfl .t one_int (by kernel_rfl) (.one rfl .t one_int (by kernel_rfl) .nil))) r2 trivial
     (cF rfl (o_buildSliceE (sz := 2) (zs := [.int .i64 0, .int .i64 0]) (r := [(0, .tmp 35)]) (l := [_, _]) Tryd.underlying27 (by kernel_rfl) (by kernel_rfl) (by kernel_rfl) (by kernel_rfl) rfl rfl (.agg rfl .t (by kernel_rfl) (by kernel_rfl) .nil) rfl) r1 trivial
     (cF rfl (o_append (sz := 2) (bs := 16) 102 (.mk' Tryd.underlying27 (by kernel_rfl) (by kernel_rfl)) (by intro x; rfl) .same (.arr (l' := [(⟨d.u, d.v⟩ : PairD)]) .t) (by simp only [List.length_append, List.length_cons, List.length_nil]; omega) (by decide)) ⟨rfl, rfl, trivial⟩ ⟨rfl, trivial⟩
     (cF rfl (oN .t) r1 trivial
     (cF rfl (oN (.ci (by kernel_rfl))) trivial trivial
     Chain.nil))))))))))))
     (by kernel_rfl) (by rw [hB]; kernel_rfl) ?_
   clear hS; intro a w F hS
   replace hS := hS.sub
   obtain ⟨F, hS⟩ := hS.nm [7, 6, 5, 1] [102, 101, 0] rfl rfl
   try dsimp only [RS.sub, SF.sub, CF.sub, csub, Anc.sub, List.map, stCells, xL, xM, Nat.reduceAdd, xD, xE, xT, xU, xC, xN, zCF, ldSF, rPair, rDeed4] at hS
   generalize Act.tau a 37 = v37 at hS
   refine then_n (wp_ret (then_r ?_))
   obtain ⟨F, hS⟩ := hS.give 102 6 rfl rfl
   refine ret_P hfr hS rfl (.tmp rfl (.tmp rfl .nil)) (.two (.sl (by rw [hg])) (.int (by rw [hg])))
  have hkd : ¬ d.kind = 0 := by simpa using hc2
  refine wp_skip (then_n (wp_seq (wp_seq ?_)))
  refine region_q hS
    (cF rfl (oM .t) r1 trivial
    (cF rfl (oF 1 101 .is) r1 r1
    (cF rfl (oL false 1 101 .adr) r1 r1
    (cF rfl (oF 2 101 .is) r1 r1
    (cF rfl (oL false 1 101 .adr) r1 r1
    (cF rfl (oP (count24_c q d.u d.v) Tryd.func17 (Args.three .t .t .t)) r3 trivial
    (cF rfl (o_eql .t (.ci (by kernel_rfl))) r1 trivial
    Chain.nil)))))))
    hB ?_
  clear hS; intro a w F hS
  obtain ⟨F, hS⟩ := hS.nm [44, 7, 6, 5, 1] [101, 0] rfl rfl
  try dsimp only [List.map, xD, xE, xT, xU, ldSF, rPair, rDeed4] at hS
  refine then_n ?_
  refine cond_b hS rfl (fun hc3 => ?_) (fun hc3 => ?_)
  ·skip
   have hg : stepC n q d = (q, 3) := by unfold stepC; rw [if_neg hk2]; exact (by unfold stepQ; rw [if_pos hth, if_neg hkd, if_pos (by simp at hc3; simpa using hc3)])
   refine wp_seq ?_
   refine region_q hS
     (cF rfl (oM .t) r1 trivial
     (cF rfl (oN .t) r1 trivial
     (cF rfl (oN (.ci (by kernel_rfl))) trivial trivial
     Chain.nil)))
     hB ?_
   clear hS; intro a w F hS
   obtain ⟨F, hS⟩ := hS.nm [7, 6, 5, 1] [101, 0] rfl rfl
   try dsimp only [rPair, rDeed4] at hS
   refine then_n (wp_ret (then_r ?_))
   refine ret_P hfr hS rfl (.tmp rfl (.tmp rfl .nil)) (.two (.sl (by rw [hg])) (.int (by rw [hg])))
  have hg : stepC n q d = (q.erase ⟨d.u, d.v⟩, 0) := by unfold stepC; rw [if_neg hk2]; exact (by unfold stepQ; rw [if_pos hth, if_neg hkd, if_neg (by simp at hc3; simpa using hc3)])
  refine wp_skip (then_n (wp_seq ?_))
  refine region_q hS
    (cF rfl (oM .t) r1 trivial
    (cF rfl (oF 1 101 .is) r1 r1
    (cF rfl (oL false 1 101 .adr) r1 r1
    (cF rfl (oF 2 101 .is) r1 r1
    (cF rfl (oL false 1 101 .adr) r1 r1
    (cF rfl (oP (drop24_c q d.u d.v hl) Tryd.func43 (Args.three .t .t .t)) r3 trivial
    (cF rfl (oN .t) r1 trivial
    (cF rfl (oN (.ci (by kernel_rfl))) trivial trivial
    Chain.nil))))))))
    hB ?_
  clear hS; intro a w F hS
  obtain ⟨F, hS⟩ := hS.nm [7, 6] [0] rfl rfl
  try dsimp only [List.map, xD, xE, xT, xU, ldSF, rPair, rDeed4] at hS
  refine then_n (wp_ret ?_)
  refine ret_P hfr hS rfl (.tmp rfl (.tmp rfl .nil)) (.two (.sl (by rw [hg])) (.int (by rw [hg])))

theorem does25_c (b n : Nat) (q q0 : List PairD) (d : Deed4) (hq1 : q.length < 1000000) : FnG Tryd.prog 28 1 [.is (.pointer (some ⟨b, 0, none⟩)), .agg (rDeed4 d)] [coH (.pointer (some ⟨b, 0, none⟩)) n q q0] (.int .i64 (stepC n q d).2) (fun _ => [coH (.pointer (some ⟨b, 0, none⟩)) n (stepC n q d).1 (wasC q q0 d)]) := by
  refine FnG.mk Tryd.func28 rfl Tryd.ntmps28 rfl (by kernel_rfl) ?_
  intro B F0 a w F hB hG hS
  refine wp_seq ?_
  refine region_q hS
    (cF rfl (oX 101 (.conv .t .agg)) r1 trivial
    (cF rfl (oN (.ci (by kernel_rfl))) trivial trivial
    Chain.nil))
    hB ?_
  clear hS; intro a w F hS
  replace hS := hS.sub
  obtain ⟨F, hS⟩ := hS.nm [4, 3, 0] [101, 1, 0] rfl rfl
  try dsimp only [RS.sub, SF.sub, CF.sub, csub, Anc.sub, List.map, zCF, rDeed4] at hS
  generalize Act.tau a 3 = v3 at hS
  refine then_n (wp_seq (wp_seq ?_))
  refine region_q hS
    (cF rfl (oF 0 101 .is) r1 r1
    (cF rfl (oL false 1 101 .adr) r1 r1
    Chain.nil))
    hB ?_
  clear hS; intro a w F hS
  obtain ⟨F, hS⟩ := hS.nm [6, 4, 3, 0] [101, 1, 0] rfl rfl
  try dsimp only [List.map, xD, xE, xT, xU, ldSF, rDeed4] at hS
  refine then_n (wp_block (wp_seq ?_))
  refine region_q hS
    (cF rfl (o_eql .t (.ci (by kernel_rfl))) r1 trivial
    (cF rfl (oN .t) r1 trivial
    Chain.nil))
    hB ?_
  clear hS; intro a w F hS
  obtain ⟨F, hS⟩ := hS.nm [7, 6, 4, 3, 0] [101, 1, 0] rfl rfl
  try dsimp only [rDeed4] at hS
  refine then_n ?_
  refine cond_b hS rfl (fun hc0 => ?_) (fun hc0 => ?_)
  ·skip
   have hkd : d.kind = 0 := by simpa using hc0
   have hk2 : ¬ d.kind = 2 := by omega
   have hg : stepC n q d = stepQ n q ⟨0, d.u, d.v⟩ := by unfold stepC; rw [if_neg hk2, stepQ_kind0 hkd]
   have hw : wasC q q0 d = q0 := if_neg hk2
   refine wp_seq ?_
   refine region_q hS
     (cF rfl (oM .t) r1 trivial
     (cF rfl (oF 1 101 .is) r1 r1
     (cF rfl (oL false 1 101 .adr) r1 r1
     (cF rfl (oF 2 101 .is) r1 r1
     (cF rfl (oL false 1 101 .adr) r1 r1
     (cF rfl (o_callG1 1 (cadd_c b n q q0 d.u d.v hq1) Tryd.func40 rfl (by kernel_rfl) (Args.three .t .t .t)) r3 r1
     (cF rfl (oN .t) r1 trivial
     Chain.nil)))))))
     hB ?_
   clear hS; intro a w F hS
   obtain ⟨F, hS⟩ := hS.nm [4, 3, 0] [101, 1, 0] rfl rfl
   try dsimp only [List.map, xD, xE, xT, xU, ldSF, rDeed4] at hS
   refine then_n (wp_ret (block_r (then_r ?_)))
   have hS := hS.turn 1 rfl (r' := RS.hp (coH (.pointer (some ⟨b, 0, none⟩)) n (stepC n q d).1 (wasC q q0 d))) (by rw [hg, hw]; exact fun _ _ _ _ h => h)
   refine ret_G1 hG hS rfl (.tmp rfl .nil) (.one (.int (by rw [hg]))) rfl
  have hkd : ¬ d.kind = 0 := by simpa using hc0
  refine wp_seq ?_
  refine region_q hS
    (cF rfl (o_eql .t (.ci (by kernel_rfl))) r1 trivial
    (cF rfl (oN .t) r1 trivial
    Chain.nil))
    hB ?_
  clear hS; intro a w F hS
  obtain ⟨F, hS⟩ := hS.nm [15, 4, 3, 0] [101, 1, 0] rfl rfl
  try dsimp only [rDeed4] at hS
  refine then_n ?_
  refine cond_b hS rfl (fun hc1 => ?_) (fun hc1 => ?_)
  ·skip
   have hk2 : d.kind = 2 := by simpa using hc1
   have hg : stepC n q d = (q, 0) := if_pos hk2
   have hw : wasC q q0 d = q := if_pos hk2
   refine wp_seq ?_
   refine region_q hS
     (cF rfl (oM .t) r1 trivial
     (cF rfl (o_callG1 1 (cclean_c b n q q0) Tryd.func39 rfl (by kernel_rfl) (Args.one .t)) r1 r1
     Chain.nil))
     hB ?_
   clear hS; intro a w F hS
   obtain ⟨F, hS⟩ := hS.nm [4, 3, 0] [101, 1, 0] rfl rfl
   try dsimp only [rDeed4] at hS
   refine then_n (wp_seq ?_)
   refine region_q hS
     (cF rfl (oN (.ci (by kernel_rfl))) trivial trivial
     Chain.nil)
     hB ?_
   clear hS; intro a w F hS
   obtain ⟨F, hS⟩ := hS.nm [4, 3, 0] [101, 1, 0] rfl rfl
   try dsimp only [rDeed4] at hS
   refine then_n (wp_ret (block_r (then_r ?_)))
   have hS := hS.turn 1 rfl (r' := RS.hp (coH (.pointer (some ⟨b, 0, none⟩)) n (stepC n q d).1 (wasC q q0 d))) (by rw [hg, hw]; exact fun _ _ _ _ h => h)
   refine ret_G1 hG hS rfl (.tmp rfl .nil) (.one (.int (by rw [hg]))) rfl
  have hk2 : ¬ d.kind = 2 := by simpa using hc1
  have hg : stepC n q d = stepQ n q ⟨1, d.u, d.v⟩ := by unfold stepC; rw [if_neg hk2, stepQ_kind1 hkd]
  have hw : wasC q q0 d = q0 := if_neg hk2
  refine wp_skip (block_n (then_n (wp_seq ?_)))
  refine region_q hS
    (cF rfl (oM .t) r1 trivial
    (cF rfl (oF 1 101 .is) r1 r1
    (cF rfl (oL false 1 101 .adr) r1 r1
    (cF rfl (oF 2 101 .is) r1 r1
    (cF rfl (oL false 1 101 .adr) r1 r1
    (cF rfl (o_callG1 1 (cdrop_c b n q q0 d.u d.v hq1) Tryd.func55 rfl (by kernel_rfl) (Args.three .t .t .t)) r3 r1
    (cF rfl (oN .t) r1 trivial
    Chain.nil)))))))
    hB ?_
  clear hS; intro a w F hS
  obtain ⟨F, hS⟩ := hS.nm [4] [1, 0] rfl rfl
  try dsimp only [List.map, xD, xE, xT, xU, ldSF, rDeed4] at hS
  refine then_n (wp_ret ?_)
  have hS := hS.turn 1 rfl (r' := RS.hp (coH (.pointer (some ⟨b, 0, none⟩)) n (stepC n q d).1 (wasC q q0 d))) (by rw [hg, hw]; exact fun _ _ _ _ h => h)
  refine ret_G1 hG hS rfl (.tmp rfl .nil) (.one (.int (by rw [hg]))) rfl

end Go.Proofs.YtpahapjcdldodaaDoor
