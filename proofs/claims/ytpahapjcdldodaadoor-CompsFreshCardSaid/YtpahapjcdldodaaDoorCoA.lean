/- Components: Stale. No condition beyond those that each theorem says. -/
import Derived.Test.YtpahapjcdldodaaDoorCo9
namespace Go.Proofs.YtpahapjcdldodaaDoor
open Go Go.Gm
set_option linter.unusedVariables false
set_option linter.unusedSimpArgs false
set_option maxHeartbeats 4000000
set_option maxRecDepth 8000


theorem SzOk.bd {es : List (GE Int Int)} {ms : List (Int × List Int)} (h : SzOk es ms) (a : Int) : 0 ≤ (gGet a es).getD 0 ∧ (gGet a es).getD 0 ≤ ms.length := by
  rw [h a]
  have := List.countP_le_length (p := fun m : Int × List Int => decide (m.1 = a)) (l := ms)
  omega
def msN (i : Nat) : List (Int × List Int) := (List.range i).map fun k : Nat => ((k : Int), [])
theorem msN_len (i : Nat) : (msN i).length = i := by unfold msN; simp
theorem msN_next (i : Nat) : msN (i + 1) = msN i ++ [((i : Int), [])] := by unfold msN; rw [List.range_succ, List.map_append]; rfl
theorem msN_nth {i k : Nat} (h : k < i) : Go.Gm.nth (msN i) k = ((k : Int), []) := by rw [nth_eq (by rw [msN_len]; exact h)]; simp [msN]
theorem msN_no (i j : Nat) (h : i ≤ j) : (msN i).countP (fun m => decide (m.1 = (j : Int))) = 0 := by
  rw [List.countP_eq_zero]
  intro m hm
  unfold msN at hm
  obtain ⟨k, hk, rfl⟩ := List.mem_map.1 hm
  have := List.mem_range.1 hk
  simp; omega
theorem SzOk.new {es : List (GE Int Int)} {ck i : Nat} (h : SzOk es (msN i)) : SzOk (gPut (i : Int) 1 (es, ck)).1 (msN (i + 1)) := fun a => by
  rw [gGet_put, msN_next, List.countP_append]
  by_cases e : a = (i : Int)
  · subst e; rw [if_pos rfl, msN_no i i (Nat.le_refl _)]; simp
  · have e' : ¬ (i : Int) = a := fun k => e k.symm
    rw [if_neg e, h a]; simp [e']
theorem mutQ_nil {x u : Int} : MutQ [] x u ↔ x = u := by
  unfold MutQ
  rw [reachQ_nil]; simp
theorem compQ_nil {n k : Nat} (h : k < n) : compQ n [] (k : Int) = [(k : Int)] := by
  refine up_ext (compQ_up n [] _).1 (List.pairwise_singleton _ _) fun x => ?_
  rw [mem_compQ, mutQ_nil, List.mem_singleton]
  exact ⟨fun h => h.2, fun e => ⟨by subst e; exact ⟨by omega, by omega⟩, e⟩⟩
theorem mk_new {n : Nat} : MkOk n [] (msN n) := fun k hk => by
  rw [msN_nth hk]
  unfold labQ inQ
  rw [compQ_nil hk]
  simp [nth_eq]
theorem CoOk.new {n : Nat} (hn : n ≤ 4096) {s : CoS} (h1 : s.ns.length = n) (h2 : s.ks.length = n) (h3 : s.ms = msN n) (h4 : SzOk s.es s.ms) (h5 : s.D = []) : CoOk n [] [] s :=
  ⟨⟨hn, fun p hp => (by cases hp), Nat.zero_le _, h1, h2, by rw [h3, msN_len], by rw [h5]; exact up_nil⟩, by rw [h3]; exact mk_new, h4, by rw [h5]; exact ⟨up_nil, fun x _ _ => SameC.refl _ _ _⟩⟩

theorem cstale_c (b n : Nat) (q q0 : List PairD) : FnG Tryd.prog 30 1 [.is (.pointer (some ⟨b, 0, none⟩))] [coH (.pointer (some ⟨b, 0, none⟩)) n q q0] (.sl rInt (staleQ n q q0)) (fun _ => [coH (.pointer (some ⟨b, 0, none⟩)) n q q0]) := by
  refine FnG.mk Tryd.func30 rfl Tryd.ntmps30 rfl (by kernel_rfl) ?_
  intro B F0 a w F hB hG hS
  obtain ⟨sx, hS⟩ := hS.open_ex 1 rfl
  obtain ⟨hk, hS⟩ := hS.open_and 1 rfl
  dsimp only [coParts] at hS
  obtain ⟨F, hS⟩ := hS.peel 1 2 rfl rfl
  obtain ⟨F, hS⟩ := hS.peel 1 3 rfl rfl
  obtain ⟨F, hS⟩ := hS.peel 1 4 rfl rfl
  obtain ⟨F, hS⟩ := hS.peel 1 5 rfl rfl
  obtain ⟨F, hS⟩ := hS.peel 1 8 rfl rfl
  obtain ⟨F, hS⟩ := hS.peel 1 6 rfl rfl
  obtain ⟨F, hS⟩ := hS.peel 1 7 rfl rfl
  obtain ⟨F, hS⟩ := hS.peel 1 10 rfl rfl
  have hhi := hk.hi
  have hnl : sx.ns.length = n := hk.nl
  have hkl : sx.ks.length = n := hk.kl
  have hml : sx.ms.length = n := hk.ml
  have hinn := hk.inn
  have hup := hk.up
  have hql := hk.len
  obtain ⟨F, hS⟩ := hS.nm [0] [10, 8, 7, 6, 5, 4, 3, 2, 0] rfl rfl
  refine wp_seq ?_
  refine region_q hS
    (cF rfl (oN (.c rfl)) trivial trivial
    Chain.nil)
    hB ?_
  clear hS; intro a w F hS
  obtain ⟨F, hS⟩ := hS.nm [2, 0] [10, 8, 7, 6, 5, 4, 3, 2, 0] rfl rfl
  try dsimp only [rV, rMk, mapS, rInt] at hS
  refine then_n (wp_seq ?_)
  refine region_q hS
    (cF rfl (oN (.c rfl)) trivial trivial
    Chain.nil)
    hB ?_
  clear hS; intro a w F hS
  obtain ⟨F, hS⟩ := hS.nm [3, 2, 0] [10, 8, 7, 6, 5, 4, 3, 2, 0] rfl rfl
  try dsimp only [rV, rMk, mapS, rInt] at hS
  refine then_n (wp_seq (wp_seq ?_))
  refine region_q hS
    (cF rfl (oM .t) r1 trivial
    (cF rfl (o_nil_eql _ Tryd.underlying51 rfl .t) r1 trivial
    Chain.nil))
    hB ?_
  clear hS; intro a w F hS
  obtain ⟨F, hS⟩ := hS.nm [8, 3, 2, 0] [10, 8, 7, 6, 5, 4, 3, 2, 0] rfl rfl
  try dsimp only [rV, rMk, mapS, rInt] at hS
  refine then_n ?_
  refine cond_b hS rfl (fun hc0 => ?_) (fun hc0 => ?_)
  ·skip
   simp at hc0
  refine wp_skip (then_n (wp_seq (wp_seq ?_)))
  refine region_q hS
    (cF rfl (oM .t) r1 trivial
    (cF rfl (o_nilCheck 2 .is (by rfl)) r1 r1
    (cF rfl (oF 4 2 .adr) r1 r1
    (cF rfl (oL false 1 2 .adr) r1 r1
    (cF rfl (o_callG1 10 (listV_c sx.dv n sx.D) Tryd.func54 rfl (by kernel_rfl) (Args.one .t)) r1 r1
    (cF rfl (o_len_sl Tryd.underlying30 .t) r1 trivial
    (cF rfl (oM (.ci (by kernel_rfl))) trivial trivial
    Chain.nil)))))))
    hB ?_
  clear hS; intro a w F hS
  obtain ⟨F, hS⟩ := hS.nm [16, 15, 14, 3, 2, 0] [10, 8, 7, 6, 5, 4, 3, 2, 0] rfl rfl
  try dsimp only [List.map, xD, xE, xT, xU, ldSF, rV, rMk, mapS, rInt] at hS
  have hS := hS.fresh 1 rfl
  obtain ⟨F, hS⟩ := hS.push 1 10 rfl rfl rfl (by kernel_rfl)
  obtain ⟨F, hS⟩ := hS.push 1 7 rfl rfl rfl (by kernel_rfl)
  obtain ⟨F, hS⟩ := hS.push 1 6 rfl rfl rfl (by kernel_rfl)
  obtain ⟨F, hS⟩ := hS.push 1 8 rfl rfl rfl (by kernel_rfl)
  obtain ⟨F, hS⟩ := hS.push 1 5 rfl rfl rfl (by kernel_rfl)
  obtain ⟨F, hS⟩ := hS.push 1 4 rfl rfl rfl (by kernel_rfl)
  obtain ⟨F, hS⟩ := hS.push 1 3 rfl rfl rfl (by kernel_rfl)
  obtain ⟨F, hS⟩ := hS.push 1 2 rfl rfl rfl (by kernel_rfl)
  have hS := hS.turn 1 rfl (r' := RS.hp (coT (.pointer (some ⟨b, 0, none⟩)) n q sx)) (fun _ _ _ _ h => ⟨hk.toCoL, h⟩)
  obtain ⟨F, hS⟩ := hS.nm [16, 15, 14, 3, 2, 0] [1, 0] rfl rfl
  refine then_n (wp_block ?_)
  replace hS := hS.fresh 50 rfl
  replace hS := hS.turn 50 rfl (nilRow (T := 3) (sz := 1) (R := rInt))
  refine loop_keep (σ := (Nat) × (Value) × (List Int)) [0, 2, 14, 15] [0, 1] (fun s => [(16, .pv (.int .i64 (s.1 : Int))), (3, .pv (.is s.2.1))]) (fun s => [(50, .ob (.val s.2.1) (rowH 3 1 rInt s.2.2))]) (fun s => s.1 ≤ sx.D.length ∧ (s.2.2 = (sx.D.take s.1).filter (staleB n q q0))) (fun s => sx.D.length - s.1) ((0), (.slice none 0 0), ([])) hS ⟨rfl, rfl, rfl, rfl, rfl, rfl, trivial⟩ ⟨rfl, rfl, rfl, trivial⟩ ⟨Nat.zero_le _, rfl⟩ ?_
  clear hS; intro s a w F hC hS
  obtain ⟨i, v, out⟩ := s
  try dsimp only at hC
  obtain ⟨F, hS⟩ := hS.nm [16, 15, 14, 3, 2, 0] [50, 1, 0] rfl rfl
  try dsimp only at hS
  obtain ⟨hi, hq⟩ := hC
  have hol : out.length ≤ i := by rw [hq]; exact Nat.le_trans (List.length_filter_le _ _) (by rw [List.length_take]; omega)
  refine wp_seq ?_
  refine region_q hS
    (cF rfl (o_lss .t .t) r2 trivial
    Chain.nil)
    hB ?_
  clear hS; intro a w F hS
  obtain ⟨F, hS⟩ := hS.nm [17, 16, 15, 14, 3, 2, 0] [50, 1, 0] rfl rfl
  try dsimp only [rV, rMk, mapS, rInt] at hS
  refine then_n (wp_seq ?_)
  refine cond_b hS rfl (fun hc1 => ?_) (fun hc1 => ?_)
  ·skip
   have hil : i < sx.D.length := by simp at hc1; omega
   have hxt : There n (Go.Gm.nth sx.D i) := hup.2 _ (nth_mem hil)
   have hcp := compQ_pos (q := q) hxt
   have hdl := up_len hup
   refine wp_skip (then_n (wp_seq (wp_block (wp_seq ?_))))
   refine region_q hS
     (cF rfl (o_indexAddr_sl (sz := 1) (.mk Tryd.underlying30 (by kernel_rfl)) (by intro x; rfl) .t .t (by omega) (by omega)) r2 trivial
     (cF rfl (oR false 1 .t) r1 trivial
     (cF rfl (oN .t) r1 trivial
     Chain.nil)))
     hB ?_
   clear hS; intro a w F hS
   obtain ⟨F, hS⟩ := hS.nm [16, 15, 14, 5, 3, 2, 0] [50, 1, 0] rfl rfl
   try dsimp only [List.map, xD, xE, xT, xU, ldSF, rV, rMk, mapS, rInt] at hS
   try simp only [Int.toNat_natCast] at hS
   refine then_n (wp_seq ?_)
   replace hS := hS.fresh 101 rfl
   refine region_q hS
     (cF rfl (oM .t) r1 trivial
     (cF rfl (oM .t) r1 trivial
     (cF rfl (OpC.lend 1 [20] coT_read (o_callN 101 (members_c n q (Go.Gm.nth sx.D i) hhi hinn hql) Tryd.func37 rfl (by kernel_rfl) (Args.two .t .t) pvOne1) ⟨rfl, trivial, trivial⟩ (fun _ _ _ _ _ h => h) ⟨(fun _ _ _ _ _ _ _ _ _ _ k => rowI_free k), trivial⟩ (by rfl)) r2 r2
     (cF rfl (oN .t) r1 trivial
     Chain.nil))))
     hB ?_
   clear hS; intro a w F hS
   replace hS := hS.sub
   obtain ⟨F, hS⟩ := hS.nm [16, 15, 14, 6, 5, 3, 2, 0] [101, 50, 1, 0] rfl rfl
   try dsimp only [RS.sub, SF.sub, CF.sub, csub, Anc.sub, List.map, rV, rMk, mapS, rInt] at hS
   generalize Act.tau a 22 = v22 at hS
   obtain ⟨F, hS⟩ := hS.give 101 6 rfl rfl
   obtain ⟨F, hS⟩ := hS.nm [16, 15, 14, 6, 5, 3, 2, 0] [50, 1, 0] rfl rfl
   rw [show memB n q (Go.Gm.nth sx.D i) = (compQ n q (Go.Gm.nth sx.D i)) from if_pos hxt] at hS
   refine then_n (wp_seq ?_)
   refine region_q hS
     (cF rfl (oM .t) r1 trivial
     (cF rfl (o_indexAddr_sl (sz := 1) (.mk Tryd.underlying30 (by kernel_rfl)) (by intro x; rfl) .t (.ci (by kernel_rfl)) (by decide) (by omega)) r1 trivial
     (cF rfl (oR false 1 .t) r1 trivial
     (cF rfl (oM .t) r1 trivial
     (cF rfl (o_eql .t .t) r2 trivial
     (cF rfl (oM .t) r1 trivial
     (Chain.cons (Cert.cond rfl rfl (fun h => o_move .t (by rfl))) r2 trivial
     (Chain.cons (Cert.cond rfl rfl (fun h => o_move .t (by rfl))) r2 trivial
     (Chain.cons (Cert.condR rfl rfl (by rfl) (fun h => o_callG1 1 (fresh_c b n q sx (compQ n q (Go.Gm.nth sx.D i)) (fun y hy => (mem_compQ.1 hy).1) hcp (by have := up_len (compQ_up n q (Go.Gm.nth sx.D i)); omega)) Tryd.func58 rfl (by kernel_rfl) (Args.two (.w h) (.w h)))) r3 r1
     (Chain.cons (Cert.cond rfl rfl (fun h => o_not (.w h))) r2 trivial
     (cF rfl (o_and2 .t .t) r2 trivial
     Chain.nil)))))))))))
     hB ?_
   clear hS; intro a w F hS
   obtain ⟨F, hS⟩ := hS.nm [33, 16, 15, 14, 5, 3, 2, 0] [50, 1, 0] rfl rfl
   try dsimp only [List.map, xD, xE, xT, xU, ldSF, rV, rMk, mapS, rInt] at hS
   try simp only [Int.toNat_natCast] at hS
   refine then_n ?_
   refine cond_b hS rfl (fun hc2 => ?_) (fun hc2 => ?_)
   ·skip
    have hb2 := hc2
    rw [Bool.and_eq_true] at hb2
    have hlab : labQ n q (Go.Gm.nth sx.D i) = (Go.Gm.nth sx.D i) := of_decide_eq_true hb2.1
    have hf := hb2.2
    rw [fresh_iff hhi hinn hk.mrk hml hk.sz hxt hlab] at hf
    have hBq : staleB n q q0 (Go.Gm.nth sx.D i) = true := by unfold staleB; rw [decide_eq_true hlab, Bool.true_and]; exact hf
    refine region_q hS
      (cF rfl (oM .t) r1 trivial
      (cF rfl (oM .t) r1 trivial
      (cF rfl (o_buildSliceE (sz := 1) (zs := [.int .i64 0]) (r := [(0, .tmp 35)]) (l := [_]) Tryd.underlying30 (by kernel_rfl) (by kernel_rfl) (by kernel_rfl) (by kernel_rfl) rfl rfl (.one rfl .t one_int (by kernel_rfl) .nil) rfl) r1 trivial
      (cF rfl (o_append (sz := 1) (bs := 8) 50 (.mk' Tryd.underlying30 (by kernel_rfl) (by kernel_rfl)) (by intro x; rfl) .is (.arr (l' := [(Go.Gm.nth sx.D i)]) .t) (by simp only [List.length_append, List.length_cons, List.length_nil]; omega) (by decide)) ⟨rfl, rfl, trivial⟩ ⟨rfl, trivial⟩
      (cF rfl (oN .t) r1 trivial
      Chain.nil)))))
      hB ?_
    clear hS; intro a w F hS
    replace hS := hS.sub
    obtain ⟨F, hS⟩ := hS.nm [16, 15, 14, 3, 2, 0] [50, 1, 0] rfl rfl
    try dsimp only [RS.sub, SF.sub, CF.sub, csub, Anc.sub, List.map, stCells, xL, xM, Nat.reduceAdd, xD, xE, xT, xU, xC, xN, zCF, rV, rMk, mapS, rInt] at hS
    generalize Act.tau a 37 = v37 at hS
    refine block_n (then_n ?_)
    refine region_q hS
      (cF rfl (o_add .t (.ci (by kernel_rfl))) r1 trivial
      (cF rfl (oM .t) r1 trivial
      Chain.nil))
      hB ?_
    clear hS; intro a w F hS
    obtain ⟨F, hS⟩ := hS.nm [16, 15, 14, 3, 2, 0] [50, 1, 0] rfl rfl
    try dsimp only [rV, rMk, mapS, rInt] at hS
    refine then_n ?_
    replace hS := hS.ent (i := 16) (s' := .pv (.int .i64 ((i + 1 : Nat) : Int))) rfl (.int (wrap_succ (by omega)))
    obtain ⟨F, hS⟩ := hS.nm [15, 14, 2, 0, 3, 16] [1, 0, 50] rfl rfl
    exact ⟨((i + 1), _, _), F, ⟨by omega, (by rw [take_nth hil, List.filter_append, ← hq]; simp [hBq])⟩, hS, by omega⟩
   have hBq : staleB n q q0 (Go.Gm.nth sx.D i) = false := by
     have hb2 := hc2
     rw [Bool.and_eq_false_iff] at hb2
     unfold staleB
     by_cases hlab : labQ n q (Go.Gm.nth sx.D i) = (Go.Gm.nth sx.D i)
     · rcases hb2 with hb2 | hb2
       · exact absurd hlab (of_decide_eq_false hb2)
       · rw [fresh_iff hhi hinn hk.mrk hml hk.sz hxt hlab] at hb2
         rw [decide_eq_true hlab, Bool.true_and]; exact hb2
     · rw [decide_eq_false hlab, Bool.false_and]
   refine wp_skip (block_n (then_n ?_))
   refine region_q hS
     (cF rfl (o_add .t (.ci (by kernel_rfl))) r1 trivial
     (cF rfl (oM .t) r1 trivial
     Chain.nil))
     hB ?_
   clear hS; intro a w F hS
   obtain ⟨F, hS⟩ := hS.nm [16, 15, 14, 3, 2, 0] [50, 1, 0] rfl rfl
   try dsimp only [rV, rMk, mapS, rInt] at hS
   refine then_n ?_
   replace hS := hS.ent (i := 16) (s' := .pv (.int .i64 ((i + 1 : Nat) : Int))) rfl (.int (wrap_succ (by omega)))
   obtain ⟨F, hS⟩ := hS.nm [15, 14, 2, 0, 3, 16] [1, 0, 50] rfl rfl
   exact ⟨((i + 1), _, _), F, ⟨by omega, (by rw [take_nth hil, List.filter_append, ← hq]; simp [hBq])⟩, hS, by omega⟩
  have hil : i = sx.D.length := by simp at hc1; omega
  have hdl := up_len hup
  refine wp_exit (then_x (then_x (block_x (then_n (wp_seq ?_)))))
  refine region_q hS
    (cF rfl (oM .t) r1 trivial
    (cF rfl (oN .t) r1 trivial
    Chain.nil))
    hB ?_
  clear hS; intro a w F hS
  obtain ⟨F, hS⟩ := hS.nm [2] [50, 1, 0] rfl rfl
  try dsimp only [rV, rMk, mapS, rInt] at hS
  refine then_n (wp_ret ?_)
  obtain ⟨F, hS⟩ := hS.give 50 2 rfl rfl
  have hS := hS.turn 1 rfl (r' := RS.hp (coH (.pointer (some ⟨b, 0, none⟩)) n q q0)) (fun _ _ _ _ h => ⟨sx, hk, h.2⟩)
  refine ret_G1 hG hS rfl (.tmp rfl .nil) (.one (.sl (by rw [hq, hil, List.take_length]; exact stale_dirty hk.dt))) rfl

theorem cstale_nil  : FnP Tryd.prog 30 [.is (.pointer none)] (.sl rInt []) := by
  refine FnP.mk Tryd.func30 rfl Tryd.ntmps30 rfl ?_
  intro B a w F hB hfr hS
  refine wp_seq ?_
  refine region_q hS
    (cF rfl (oN (.c rfl)) trivial trivial
    Chain.nil)
    hB ?_
  clear hS; intro a w F hS
  obtain ⟨F, hS⟩ := hS.nm [2, 0] [0] rfl rfl
  refine then_n (wp_seq ?_)
  refine region_q hS
    (cF rfl (oN (.c rfl)) trivial trivial
    Chain.nil)
    hB ?_
  clear hS; intro a w F hS
  obtain ⟨F, hS⟩ := hS.nm [3, 2, 0] [0] rfl rfl
  refine then_n (wp_seq (wp_seq ?_))
  refine region_q hS
    (cF rfl (oM .t) r1 trivial
    (cF rfl (o_nil_eql _ Tryd.underlying51 rfl .t) r1 trivial
    Chain.nil))
    hB ?_
  clear hS; intro a w F hS
  obtain ⟨F, hS⟩ := hS.nm [8, 3, 2, 0] [0] rfl rfl
  refine then_n ?_
  refine cond_b hS rfl (fun hc0 => ?_) (fun hc0 => ?_)
  ·skip
   refine wp_seq ?_
   refine region_q hS
     (cF rfl (oM .t) r1 trivial
     (cF rfl (oN .t) r1 trivial
     Chain.nil))
     hB ?_
   clear hS; intro a w F hS
   obtain ⟨F, hS⟩ := hS.nm [3, 2, 0] [0] rfl rfl
   refine then_n (wp_ret (then_r ?_))
   refine ret_P hfr hS rfl (.tmp rfl .nil) (.one (.trans .nilSl (.sl rfl)))
  simp at hc0

end Go.Proofs.YtpahapjcdldodaaDoor
