/- CompsFresh. No condition beyond those that each theorem says. -/
import Derived.Test.YtpahapjcdldodaaDoorCoF
namespace Go.Proofs.YtpahapjcdldodaaDoor
open Go Go.Gm
set_option linter.unusedVariables false
set_option linter.unusedSimpArgs false
set_option maxHeartbeats 4000000
set_option maxRecDepth 8000


theorem stale_self (n : Nat) (q : List PairD) : staleQ n q q = [] := by
  unfold staleQ
  rw [List.filter_eq_nil_iff]
  intro x _
  unfold staleB
  rw [decide_eq_true (SameC.refl n q x)]; simp
theorem fresh_same {n : Nat} {q q0 : List PairD} {u : Int} (h : There n u) (hs : ¬ labQ n q u ∈ staleQ n q q0) : compQ n q u = compQ n q0 u := by
  have hlt := labQ_there (q := q) h
  have h1 : ¬ staleB n q q0 (labQ n q u) = true := fun h9 => hs (List.mem_filter.2 ⟨mem_range_up.2 hlt, h9⟩)
  unfold staleB at h1
  rw [decide_eq_true (labQ_idem h), Bool.true_and] at h1
  have h2 : SameC n q q0 (labQ n q u) := by simpa using h1
  have h3 : compQ n q (labQ n q u) = compQ n q u := compQ_same (labQ_mut h)
  have h4 : u ∈ compQ n q0 (labQ n q u) := by rw [← h2.1, h3]; exact compQ_self h
  rw [← h3, h2.1]
  exact (compQ_same (mem_compQ.1 h4).2).symm
theorem stepC_no {q q0 : List PairD} {d : Deed4} (h : ¬ d.kind = 2) : wasC q q0 d = q0 := if_neg h
theorem step_app {n : Nat} {q : List PairD} {p : PairD} (h : There n p.key ∧ There n p.val) : (stepQ n q ⟨0, p.key, p.val⟩).1 = q ++ [p] := by
  unfold stepQ
  rw [if_pos h, if_pos rfl]
/-- What is owned is only read from now on. -/
theorem Sat.giveL {B : Base} {E : En} {a : Act} {w : World} {F : Fp} {v : Value} {ho : HP} {p : PV} (h : Sat B E a w F) (n i : Nat) (hn : Go.Gm.look E.r n = some (RS.hp ho)) (hi : Go.Gm.look E.s i = some (.pv (.is v))) (hl : Lend ho v p) :
    ∃ F', Sat B ⟨(i, .pv p) :: E.s, (n, RS.hp (HP.star [])) :: E.r⟩ a w F' := by
  have hle : ∀ b, U (fun m => if m = n then fun _ => False else F m) b → U F b := fun b ⟨m, hm⟩ => ⟨m, by
    by_cases e : m = n
    · simp only [e, if_true] at hm
    · simp only [e, if_false] at hm; exact hm⟩
  have hev := Ev.less w hle
  refine ⟨fun m => if m = n then fun _ => False else F m, ⟨fun m k b hm hk => ?_, fun m b hm => ?_⟩, h.ev.trans hev, h.n, h.df, fun j s hj => ?_, fun m r hm => ?_, fun m b hm => ?_⟩
  · by_cases e1 : m = n
    · simp only [e1, if_true] at hm
    · by_cases e2 : k = n
      · simp only [e2, if_true] at hk
      · simp only [e1, e2, if_false] at hm hk; exact h.wf.dis m k b hm hk
  · by_cases e1 : m = n
    · simp only [e1, if_true] at hm
    · simp only [e1, if_false] at hm; exact h.wf.bd m b hm
  · rw [look_cons] at hj
    split at hj
    · rename_i e
      simp only [Option.some.injEq] at hj; subst hj; subst e
      have hv : Act.tau a i = v := (h.s i _ hi).1
      show p.p (Act.tau a i) w _
      rw [hv]
      refine hl w (F n) (U F) _ (h.r n _ hn) hle (fun b hb hm => ?_) (fun b hb => h.wf.bd n b hb)
      obtain ⟨m, hm⟩ := hm
      by_cases e2 : m = n
      · simp only [e2, if_true] at hm
      · simp only [e2, if_false] at hm
        exact e2 (h.wf.dis m n b hm hb)
    · exact SF.mono hev (fun _ _ => rfl) (h.s j s hj)
  · rw [look_cons] at hm
    split at hm
    · rename_i e
      simp only [Option.some.injEq] at hm; subst hm; subst e
      intro b hb
      simp only [if_true] at hb
    · rename_i e
      have e2 : ¬ m = n := fun h => e h.symm
      simp only [e2, if_false]
      exact RS.mono hev (fun _ _ => rfl) (fun _ _ => rfl) (h.r m r hm)
  · by_cases e1 : m = n
    · simp only [e1, if_true] at hm
    · simp only [e1, if_false] at hm
      obtain ⟨r, hr⟩ := h.em m b hm
      exact ⟨r, by rw [look_cons, if_neg (fun h => e1 h.symm)]; exact hr⟩
/-- A function that makes a row, called by who only keeps the row's facts. -/
theorem FnG.rowP {α : Type} {P : Program} {f : FuncId} {args : List PV} {q : PV} {T sz : Nat} {R : α → List PV} {l : List α} (hc : FnG P f 1 args [HP.star []] q (fun v => [rowH T sz R l v])) : FnP P f args (.sl R l) := fun w y vs hy hv => by
  let F2 : Fp := fun k => if k = 0 then y else fun _ => False
  have hU : U F2 = y := by
    funext b
    refine propext ⟨?_, fun h => ⟨0, by simpa [F2] using h⟩⟩
    rintro ⟨k, hk⟩
    by_cases e : k = 0
    · subst e; simpa [F2] using hk
    · simp [F2, e] at hk
  have h0 : ∀ k b, F2 k b → k = 0 := fun k b hk => by
    by_cases e : k = 0
    · exact e
    · simp [F2, e] at hk
  refine (hc w F2 vs ⟨fun i j b hi hj => by rw [h0 i b hi, h0 j b hj], fun k b hk => hy b (by rw [← hU]; exact ⟨k, hk⟩)⟩ (fun k b hk => by have := h0 k b hk; omega) (by rw [hU]; exact hv) (fun i k hi => by
    match i, hi with
    | 0, hi => simp at hi; subst hi; exact fun b hb => by simp [F2] at hb)).mono ?_
  rintro e w' ⟨t, F', rfl, a1, a2, a3, a4, a5⟩
  have hnew := a5 0 _ rfl
  have hfresh : ∀ b, F' 1 b → w.heap.size ≤ b := fun b hb => by
    rcases a2.fnew 1 (by simp) b hb with ⟨k, hk, hkb⟩ | h
    · simp at hk; subst hk; simp [F2] at hkb
    · exact h
  have hkeep : ∀ b, b < w.heap.size → w'.heap[b]? = w.heap[b]? := fun b hb => a2.keep b hb (fun k hk hkb => by simp at hk; subst hk; simp [F2] at hkb)
  exact ⟨t, rfl, row_lend w' (F' 1) _ y hnew (fun b hb => ⟨0, by rw [a2.fkeep 0 (by simp)]; simpa [F2] using hb⟩) (fun b hb hby => by have := hfresh b hb; have := hy b hby; omega) (fun b hb => a1.bd 1 b hb), ⟨a2.os, a2.tape, a2.output, a2.size, hkeep⟩⟩

theorem stale_len (n : Nat) (q q0 : List PairD) : (staleQ n q q0).length ≤ n := by
  unfold staleQ
  exact Nat.le_trans (List.length_filter_le _ _) (by simp)
theorem membersP_c (n : Nat) (q : List PairD) (u : Int) (hn : n ≤ 4096) (hinn : InN n q) (hql : q.length ≤ 1000000) : FnP Tryd.prog 37 [coF n q, .int .i64 u] (.sl rInt (memB n q u)) := FnG.rowP (members_c n q u hn hinn hql)

theorem cofresh_c (n : Int) (l more : List Deed4) : FnPg Tryd.prog tabP tabV 6 [.int .i64 n, .sl rDeed4 l, .sl rDeed4 more] (.bool true) := by
  refine FnPg.mk Tryd.func6 rfl Tryd.ntmps6 rfl ?_
  intro B a w F hB hfr hS
  have hll := Sat.lenSl hS (i := 1) rfl
  have hml := Sat.lenSl hS (i := 2) rfl
  refine wp_seq ?_
  refine region_q hS
    (cF rfl (oN .cb) trivial trivial
    Chain.nil)
    hB ?_
  clear hS; intro a w F hS
  obtain ⟨F, hS⟩ := hS.nm [6, 2, 1, 0] [9, 0] rfl rfl
  try dsimp only [rPair, rDeed4, rInt, rRow] at hS
  refine then_n (wp_seq (wp_seq ?_))
  refine region_q hS
    (cF rfl (o_callPg 9 (lives25_c) Tryd.func25 rfl (by kernel_rfl) Args.nil) trivial r1
    (cF rfl (o_not .t) r1 trivial
    Chain.nil))
    hB ?_
  clear hS; intro a w F hS
  obtain ⟨F, hS⟩ := hS.nm [23, 6, 2, 1, 0] [9, 0] rfl rfl
  try dsimp only [rPair, rDeed4, rInt, rRow] at hS
  refine then_n ?_
  refine cond_b hS rfl (fun hc0 => ?_) (fun hc0 => ?_)
  ·skip
   simp at hc0
  refine wp_skip (then_n (wp_seq ?_))
  replace hS := hS.dupG 9 61 rfl rfl
  replace hS := hS.dupG 9 62 rfl rfl
  refine region_q hS
    (cF rfl (oM .t) r1 trivial
    (cF rfl (o_callNg 61 (conew_c n) Tryd.func24 rfl (by kernel_rfl) (Args.one .t) PV.ptr_one) r1 r1
    (cF rfl (oN .t) r1 trivial
    Chain.nil)))
    hB ?_
  clear hS; intro a w F hS
  replace hS := hS.sub
  obtain ⟨F, hS⟩ := hS.nm [7, 6, 2, 1, 0] [62, 61, 9, 0] rfl rfl
  try dsimp only [RS.sub, SF.sub, CF.sub, csub, Anc.sub, List.map, rPair, rDeed4, rInt, rRow] at hS
  generalize Act.tau a 25 = v25 at hS
  obtain ⟨_, _, _, ho⟩ := hS.obGet 61 rfl
  obtain ⟨b1, rfl⟩ := coH_ptr ho
  clear ho
  replace hS := hS.turn 61 rfl (r' := RS.hp (coH (.pointer (some ⟨b1, 0, none⟩)) (roomN n) [] [])) (fun _ _ _ _ h => h)
  obtain ⟨F, hS⟩ := hS.nm [7, 6, 2, 1, 0] [62, 61, 9, 0] rfl rfl
  refine then_n (wp_seq (wp_seq ?_))
  refine region_q hS
    (cF rfl (oM .t) r1 trivial
    (cF rfl (o_nil_eql _ Tryd.underlying51 rfl .t) r1 trivial
    (cF rfl (oM .t) r1 trivial
    (Chain.cons (Cert.cond rfl rfl (fun h => o_move .t (by rfl))) r2 trivial
    (Chain.cons (Cert.cond rfl rfl (fun h => o_lss (.w h) (.ci (by kernel_rfl)))) r2 trivial
    (cF rfl (o_or2 .t .t) r2 trivial
    (cF rfl (oM .t) r1 trivial
    (Chain.cons (Cert.cond rfl rfl (fun h => o_move .t (by rfl))) r2 trivial
    (Chain.cons (Cert.cond rfl rfl (fun h => o_gtr (.w h) (.ci (by kernel_rfl)))) r2 trivial
    (cF rfl (o_or2 .t .t) r2 trivial
    (cF rfl (oM .t) r1 trivial
    (Chain.cons (Cert.cond rfl rfl (fun h => o_move .t (by rfl))) r2 trivial
    (Chain.cons (Cert.cond rfl rfl (fun h => o_len_sl Tryd.underlying50 (.w h))) r2 trivial
    (Chain.cons (Cert.cond rfl rfl (fun h => o_gtr (.w h) (.ci (by kernel_rfl)))) r2 trivial
    (cF rfl (o_or2 .t .t) r2 trivial
    (cF rfl (oM .t) r1 trivial
    (Chain.cons (Cert.cond rfl rfl (fun h => o_move .t (by rfl))) r2 trivial
    (Chain.cons (Cert.cond rfl rfl (fun h => o_len_sl Tryd.underlying50 (.w h))) r2 trivial
    (Chain.cons (Cert.cond rfl rfl (fun h => o_gtr (.w h) (.ci (by kernel_rfl)))) r2 trivial
    (cF rfl (o_or2 .t .t) r2 trivial
    Chain.nil))))))))))))))))))))
    hB ?_
  clear hS; intro a w F hS
  obtain ⟨F, hS⟩ := hS.nm [45, 7, 6, 2, 1, 0] [62, 61, 9, 0] rfl rfl
  try dsimp only [rPair, rDeed4, rInt, rRow] at hS
  refine then_n ?_
  refine cond_b hS rfl (fun hc1 => ?_) (fun hc1 => ?_)
  ·skip
   refine wp_seq ?_
   refine region_q hS
     (cF rfl (oM .t) r1 trivial
     (cF rfl (o_nil_neq _ Tryd.underlying51 rfl .t) r1 trivial
     (cF rfl (oN .t) r1 trivial
     Chain.nil)))
     hB ?_
   clear hS; intro a w F hS
   obtain ⟨F, hS⟩ := hS.nm [7, 6, 2, 1, 0] [62, 61, 9, 0] rfl rfl
   try dsimp only [rPair, rDeed4, rInt, rRow] at hS
   refine then_n (wp_ret (then_r ?_))
   refine ret_P hfr hS rfl (.tmp rfl .nil) (.one (.bool (by first | rfl | simp)))
  have hnb : 1 ≤ n ∧ n ≤ 20 ∧ l.length ≤ 60 ∧ more.length ≤ 60 := by simp at hc1; omega
  obtain ⟨N, rfl⟩ := Int.eq_ofNat_of_zero_le (show 0 ≤ n by omega)
  have hNr : roomN (N : Int) = N := by unfold roomN; rw [if_neg (by omega), if_neg (by omega)]; rfl
  rw [hNr] at hS
  refine wp_skip (then_n (wp_seq ?_))
  refine region_q hS
    (cF rfl (oN (.c rfl)) trivial trivial
    Chain.nil)
    hB ?_
  clear hS; intro a w F hS
  obtain ⟨F, hS⟩ := hS.nm [8, 7, 6, 2, 1, 0] [62, 61, 9, 0] rfl rfl
  try dsimp only [rPair, rDeed4, rInt, rRow] at hS
  refine then_n (wp_seq (wp_seq ?_))
  refine region_q hS
    (cF rfl (oM .t) r1 trivial
    (cF rfl (o_len_sl Tryd.underlying50 .t) r1 trivial
    (cF rfl (oM (.ci (by kernel_rfl))) trivial trivial
    Chain.nil)))
    hB ?_
  clear hS; intro a w F hS
  obtain ⟨F, hS⟩ := hS.nm [50, 49, 48, 8, 7, 6, 2, 0] [62, 61, 9, 0] rfl rfl
  try dsimp only [rPair, rDeed4, rInt, rRow] at hS
  refine then_n (wp_block ?_)
  replace hS := hS.ent (i := 8) (s' := .pv (.sl rPair [])) rfl .nilSl
  refine loop_keep (σ := (Nat) × (List PairD) × (List PairD)) [0, 2, 6, 7, 48, 49] [0, 9, 62] (fun s => [(50, .pv (.int .i64 (s.1 : Int))), (8, .pv (.sl rPair s.2.1))]) (fun s => [(61, RS.hp (coH (.pointer (some ⟨b1, 0, none⟩)) N s.2.1 s.2.2))]) (fun s => s.1 ≤ l.length ∧ (s.2.1.length ≤ s.1 ∧ InN N s.2.1)) (fun s => l.length - s.1) ((0), ([]), ([])) hS ⟨rfl, rfl, rfl, rfl, rfl, rfl, rfl, rfl, trivial⟩ ⟨rfl, rfl, rfl, rfl, trivial⟩ ⟨Nat.zero_le _, ⟨Nat.le_refl 0, fun p hp => (by cases hp)⟩⟩ ?_
  clear hS; intro s a w F hC hS
  obtain ⟨i, q, q0⟩ := s
  try dsimp only at hC
  obtain ⟨F, hS⟩ := hS.nm [50, 49, 48, 8, 7, 6, 2, 0] [62, 61, 9, 0] rfl rfl
  try dsimp only at hS
  obtain ⟨hi, hq⟩ := hC
  obtain ⟨hql, hqn⟩ := hq
  refine wp_seq ?_
  refine region_q hS
    (cF rfl (o_lss .t .t) r2 trivial
    Chain.nil)
    hB ?_
  clear hS; intro a w F hS
  obtain ⟨F, hS⟩ := hS.nm [51, 50, 49, 48, 8, 7, 6, 2, 0] [62, 61, 9, 0] rfl rfl
  try dsimp only [rPair, rDeed4, rInt, rRow] at hS
  refine then_n (wp_seq ?_)
  refine cond_b hS rfl (fun hc2 => ?_) (fun hc2 => ?_)
  ·skip
   have hil : i < l.length := by simp at hc2; omega
   refine wp_skip (then_n (wp_seq (wp_block (wp_seq ?_))))
   refine region_q hS
     (cF rfl (o_indexAddr_sl (sz := 3) (.mk Tryd.underlying50 (by kernel_rfl)) (by intro x; rfl) .t .t (by omega) (by omega)) r2 trivial
     (cF rfl (oR true 3 .t) r1 trivial
     (cF rfl (oH [.int .i64 0, .int .i64 0, .int .i64 0] 101) trivial trivial
     (cF rfl (oA 3 101 .same .t) r2 r1
     Chain.nil))))
     hB ?_
   clear hS; intro a w F hS
   replace hS := hS.sub
   obtain ⟨F, hS⟩ := hS.nm [50, 49, 48, 10, 8, 7, 6, 2, 0] [101, 62, 61, 9, 0] rfl rfl
   try dsimp only [RS.sub, SF.sub, CF.sub, csub, Anc.sub, List.map, stCells, xL, xM, Nat.reduceAdd, xD, xE, xT, xU, xC, xN, zCF, ldSF, rPair, rDeed4, rInt, rRow] at hS
   generalize Act.tau a 10 = v10 at hS
   try simp only [Int.toNat_natCast] at hS
   refine then_n (wp_seq ?_)
   refine region_q hS
     (cF rfl (oM .t) r1 trivial
     (cF rfl (oM .t) r1 trivial
     (cF rfl (oL true 3 101 .is) r1 r1
     (cF rfl (oP (step25_c N q (Go.Gm.nth l i) (by omega)) Tryd.func27 (Args.three .t .t (.pagg .t))) r3 trivial
     (cF rfl (oM .t) r1 trivial
     (cF rfl (o_extract .t rfl) r1 trivial
     (cF rfl (o_extract .t rfl) r1 trivial
     (cF rfl (oN .t) r1 trivial
     Chain.nil))))))))
     hB ?_
   clear hS; intro a w F hS
   obtain ⟨F, hS⟩ := hS.nm [50, 49, 48, 10, 8, 7, 6, 2, 0] [101, 62, 61, 9, 0] rfl rfl
   try dsimp only [List.map, xD, xE, xT, xU, ldSF, rPair, rDeed4, rInt, rRow] at hS
   obtain ⟨q2, hq2⟩ : ∃ z, z = (stepC N q (Go.Gm.nth l i)).1 := ⟨_, rfl⟩
   rw [← hq2] at hS
   have hqn2 : InN N q2 := by rw [hq2]; exact stepC_in hqn
   have hql2 : q2.length ≤ i + 1 := by have := stepC_len N q (Go.Gm.nth l i); rw [← hq2] at this; omega
   refine then_n ?_
   refine region_q hS
     (cF rfl (oM .t) r1 trivial
     (cF rfl (oL true 3 101 .is) r1 r1
     (cF rfl (o_callG1 61 (does25_c b1 N q q0 (Go.Gm.nth l i) (by omega)) Tryd.func28 rfl (by kernel_rfl) (Args.two .t (.pagg .t))) r2 r1
     Chain.nil)))
     hB ?_
   clear hS; intro a w F hS
   obtain ⟨F, hS⟩ := hS.nm [50, 49, 48, 8, 7, 6, 2, 0] [62, 61, 9, 0] rfl rfl
   try dsimp only [List.map, xD, xE, xT, xU, ldSF, rPair, rDeed4, rInt, rRow] at hS
   rw [← hq2] at hS
   refine block_n (then_n ?_)
   refine region_q hS
     (cF rfl (o_add .t (.ci (by kernel_rfl))) r1 trivial
     (cF rfl (oM .t) r1 trivial
     Chain.nil))
     hB ?_
   clear hS; intro a w F hS
   obtain ⟨F, hS⟩ := hS.nm [50, 49, 48, 8, 7, 6, 2, 0] [62, 61, 9, 0] rfl rfl
   try dsimp only [rPair, rDeed4, rInt, rRow] at hS
   refine then_n ?_
   replace hS := hS.ent (i := 50) (s' := .pv (.int .i64 ((i + 1 : Nat) : Int))) rfl (.int (wrap_succ (by omega)))
   obtain ⟨F, hS⟩ := hS.nm [49, 48, 7, 6, 2, 0, 8, 50] [62, 9, 0, 61] rfl rfl
   exact ⟨((i + 1), (q2), ((wasC q q0 (Go.Gm.nth l i)))), F, ⟨by omega, ⟨by omega, hqn2⟩⟩, hS, by omega⟩
  have hil : i = l.length := by simp at hc2; omega
  obtain ⟨qA, hqA⟩ : ∃ z, z = q := ⟨_, rfl⟩
  rw [← hqA] at hS
  have hqAl : qA.length ≤ l.length := by rw [hqA]; omega
  have hqAn : InN N qA := by rw [hqA]; exact hqn
  refine wp_exit (then_x (then_x (block_x (then_n (wp_seq ?_)))))
  refine region_q hS
    (cF rfl (oM .t) r1 trivial
    (cF rfl (o_callG1 61 (cclean_c b1 N qA q0) Tryd.func39 rfl (by kernel_rfl) (Args.one .t)) r1 r1
    Chain.nil))
    hB ?_
  clear hS; intro a w F hS
  obtain ⟨F, hS⟩ := hS.nm [8, 7, 6, 2, 0] [62, 61, 9, 0] rfl rfl
  try dsimp only [rPair, rDeed4, rInt, rRow] at hS
  refine then_n (wp_seq (wp_seq ?_))
  refine region_q hS
    (cF rfl (oM .t) r1 trivial
    (cF rfl (o_callG1 61 (cstale_c b1 N qA qA) Tryd.func30 rfl (by kernel_rfl) (Args.one .t)) r1 r1
    (cF rfl (o_len_sl Tryd.underlying30 .t) r1 trivial
    (cF rfl (o_neq .t (.ci (by kernel_rfl))) r1 trivial
    Chain.nil))))
    hB ?_
  clear hS; intro a w F hS
  obtain ⟨F, hS⟩ := hS.nm [70, 8, 7, 6, 2, 0] [62, 61, 9, 0] rfl rfl
  try dsimp only [rPair, rDeed4, rInt, rRow] at hS
  rw [stale_self] at hS
  refine then_n ?_
  refine cond_b hS rfl (fun hc3 => ?_) (fun hc3 => ?_)
  ·skip
   simp at hc3
  refine wp_skip (then_n (wp_seq ?_))
  refine region_q hS
    (cF rfl (oN (.c rfl)) trivial trivial
    Chain.nil)
    hB ?_
  clear hS; intro a w F hS
  obtain ⟨F, hS⟩ := hS.nm [11, 8, 7, 6, 2, 0] [62, 61, 9, 0] rfl rfl
  try dsimp only [rPair, rDeed4, rInt, rRow] at hS
  refine then_n (wp_seq (wp_seq ?_))
  refine region_q hS
    (cF rfl (oN (.ci (by kernel_rfl))) trivial trivial
    Chain.nil)
    hB ?_
  clear hS; intro a w F hS
  obtain ⟨F, hS⟩ := hS.nm [12, 11, 8, 7, 6, 2, 0] [62, 61, 9, 0] rfl rfl
  try dsimp only [rPair, rDeed4, rInt, rRow] at hS
  refine then_n (wp_block ?_)
  replace hS := hS.fresh 50 rfl
  replace hS := hS.turn 50 rfl (nilRow (T := 30) (sz := 1) (R := rRow))
  refine loop_keep (σ := Nat × Value × List (List Int)) [0, 2, 6, 7, 8] [0, 9, 61, 62] (fun s => [(12, .pv (.int .i64 (s.1 : Int))), (11, .pv (.is s.2.1))]) (fun s => [(50, .ob (.val s.2.1) (rowH 30 1 rRow s.2.2))]) (fun s => s.1 ≤ N ∧ s.2.2 = ((List.range s.1).map fun k : Nat => memB N qA (k : Int))) (fun s => N - s.1) ((0), (.slice none 0 0), ([])) hS ⟨rfl, rfl, rfl, rfl, rfl, rfl, rfl, trivial⟩ ⟨rfl, rfl, rfl, rfl, rfl, trivial⟩ ⟨Nat.zero_le _, rfl⟩ ?_
  clear hS; intro s a w F hC hS
  obtain ⟨k, v, out⟩ := s
  try dsimp only at hC
  obtain ⟨F, hS⟩ := hS.nm [12, 11, 8, 7, 6, 2, 0] [62, 61, 50, 9, 0] rfl rfl
  try dsimp only at hS
  obtain ⟨hk, hq⟩ := hC
  have hol : out.length = k := by rw [hq, List.length_map, List.length_range]
  refine wp_seq (wp_seq ?_)
  refine region_q hS
    (cF rfl (oM .t) r1 trivial
    (cF rfl (oM .t) r1 trivial
    (cF rfl (o_lss .t .t) r2 trivial
    Chain.nil)))
    hB ?_
  clear hS; intro a w F hS
  obtain ⟨F, hS⟩ := hS.nm [73, 12, 11, 8, 7, 6, 2, 0] [62, 61, 50, 9, 0] rfl rfl
  try dsimp only [rPair, rDeed4, rInt, rRow] at hS
  refine then_n ?_
  refine cond_b hS rfl (fun hc4 => ?_) (fun hc4 => ?_)
  ·skip
   have hkN : k < N := by simp at hc4; omega
   refine wp_skip (then_n (wp_seq (wp_block ?_)))
   refine region_q hS
     (cF rfl (oM .t) r1 trivial
     (cF rfl (oM .t) r1 trivial
     (cF rfl (oM .t) r1 trivial
     (cF rfl (o_callG1 61 (membersG_c (.pointer (some ⟨b1, 0, none⟩)) N qA qA (k : Int) (by omega) hqAn (by omega)) Tryd.func37 rfl (by kernel_rfl) (Args.two .t .t)) r2 r1
     (cF rfl (o_buildSliceE (sz := 1) (zs := [.slice none 0 0]) (r := [(0, .tmp 79)]) (l := [_]) Tryd.underlying28 (by kernel_rfl) (by kernel_rfl) (by kernel_rfl) (by kernel_rfl) rfl rfl (.one rfl .t one_sl (by kernel_rfl) .nil) rfl) r1 trivial
     (cF rfl (o_append (sz := 1) (bs := 24) 50 (.mk' Tryd.underlying28 (by kernel_rfl) (by kernel_rfl)) (by intro x; rfl) .is (.arr (l' := [(memB N qA (k : Int))]) .t) (by simp only [List.length_append, List.length_cons, List.length_nil]; omega) (by decide)) ⟨rfl, rfl, trivial⟩ ⟨rfl, trivial⟩
     (cF rfl (oN .t) r1 trivial
     Chain.nil)))))))
     hB ?_
   clear hS; intro a w F hS
   replace hS := hS.sub
   obtain ⟨F, hS⟩ := hS.nm [12, 11, 8, 7, 6, 2, 0] [62, 61, 50, 9, 0] rfl rfl
   try dsimp only [RS.sub, SF.sub, CF.sub, csub, Anc.sub, List.map, stCells, xL, xM, Nat.reduceAdd, xD, xE, xT, xU, xC, xN, zCF, rPair, rDeed4, rInt, rRow] at hS
   generalize Act.tau a 81 = v81 at hS
   refine block_n (then_n ?_)
   refine region_q hS
     (cF rfl (oM .t) r1 trivial
     (cF rfl (o_add .t (.ci (by kernel_rfl))) r1 trivial
     (cF rfl (oN .t) r1 trivial
     Chain.nil)))
     hB ?_
   clear hS; intro a w F hS
   obtain ⟨F, hS⟩ := hS.nm [12, 11, 8, 7, 6, 2, 0] [62, 61, 50, 9, 0] rfl rfl
   try dsimp only [rPair, rDeed4, rInt, rRow] at hS
   refine then_n ?_
   replace hS := hS.ent (i := 12) (s' := .pv (.int .i64 ((k + 1 : Nat) : Int))) rfl (.int (wrap_succ (by omega)))
   obtain ⟨F, hS⟩ := hS.nm [8, 7, 6, 2, 0, 11, 12] [62, 61, 9, 0, 50] rfl rfl
   exact ⟨((k + 1), _, _), F, ⟨by omega, by rw [hq, List.range_succ, List.map_append]; rfl⟩, hS, (by show _ - (k + 1) < _ - k; omega)⟩
  have hk9 : k = N := by simp at hc4; omega
  rw [hk9] at hq
  rw [hq] at hS
  obtain ⟨F, hS⟩ := hS.give 50 11 rfl rfl
  obtain ⟨F, hS⟩ := hS.nm [73, 12, 11, 8, 7, 6, 2, 0] [62, 61, 9, 0] rfl rfl
  refine wp_exit (then_x (then_x (block_x (then_n (wp_seq (wp_seq ?_))))))
  refine region_q hS
    (cF rfl (oM .t) r1 trivial
    (cF rfl (o_len_sl Tryd.underlying50 .t) r1 trivial
    (cF rfl (oM (.ci (by kernel_rfl))) trivial trivial
    Chain.nil)))
    hB ?_
  clear hS; intro a w F hS
  obtain ⟨F, hS⟩ := hS.nm [84, 83, 82, 11, 8, 7, 6, 0] [62, 61, 9, 0] rfl rfl
  try dsimp only [rPair, rDeed4, rInt, rRow] at hS
  refine then_n (wp_block ?_)
  refine loop_keep (σ := (Nat) × (List PairD)) [0, 6, 7, 11, 82, 83] [0, 9, 62] (fun s => [(84, .pv (.int .i64 (s.1 : Int))), (8, .pv (.sl rPair s.2))]) (fun s => [(61, RS.hp (coH (.pointer (some ⟨b1, 0, none⟩)) N s.2 qA))]) (fun s => s.1 ≤ more.length ∧ (s.2.length ≤ l.length + s.1 ∧ InN N s.2)) (fun s => more.length - s.1) ((0), (qA)) hS ⟨rfl, rfl, rfl, rfl, rfl, rfl, rfl, rfl, trivial⟩ ⟨rfl, rfl, rfl, rfl, trivial⟩ ⟨Nat.zero_le _, ⟨hqAl, hqAn⟩⟩ ?_
  clear hS; intro s a w F hC hS
  obtain ⟨i, q5⟩ := s
  try dsimp only at hC
  obtain ⟨F, hS⟩ := hS.nm [84, 83, 82, 11, 8, 7, 6, 0] [62, 61, 9, 0] rfl rfl
  try dsimp only at hS
  obtain ⟨hi, hq⟩ := hC
  obtain ⟨hq5l, hq5n⟩ := hq
  refine wp_seq ?_
  refine region_q hS
    (cF rfl (o_lss .t .t) r2 trivial
    Chain.nil)
    hB ?_
  clear hS; intro a w F hS
  obtain ⟨F, hS⟩ := hS.nm [85, 84, 83, 82, 11, 8, 7, 6, 0] [62, 61, 9, 0] rfl rfl
  try dsimp only [rPair, rDeed4, rInt, rRow] at hS
  refine then_n (wp_seq ?_)
  refine cond_b hS rfl (fun hc5 => ?_) (fun hc5 => ?_)
  ·skip
   have hil : i < more.length := by simp at hc5; omega
   refine wp_skip (then_n (wp_seq (wp_block (wp_seq ?_))))
   refine region_q hS
     (cF rfl (o_indexAddr_sl (sz := 3) (.mk Tryd.underlying50 (by kernel_rfl)) (by intro x; rfl) .t .t (by omega) (by omega)) r2 trivial
     (cF rfl (oR true 3 .t) r1 trivial
     (cF rfl (oH [.int .i64 0, .int .i64 0, .int .i64 0] 102) trivial trivial
     (cF rfl (oA 3 102 .same .t) r2 r1
     Chain.nil))))
     hB ?_
   clear hS; intro a w F hS
   replace hS := hS.sub
   obtain ⟨F, hS⟩ := hS.nm [84, 83, 82, 14, 11, 8, 7, 6, 0] [102, 62, 61, 9, 0] rfl rfl
   try dsimp only [RS.sub, SF.sub, CF.sub, csub, Anc.sub, List.map, stCells, xL, xM, Nat.reduceAdd, xD, xE, xT, xU, xC, xN, zCF, ldSF, rPair, rDeed4, rInt, rRow] at hS
   generalize Act.tau a 14 = v14 at hS
   try simp only [Int.toNat_natCast] at hS
   refine then_n (wp_seq ?_)
   refine region_q hS
     (cF rfl (oF 0 102 .is) r1 r1
     (cF rfl (oL false 1 102 .adr) r1 r1
     (cF rfl (o_neq .t (.ci (by kernel_rfl))) r1 trivial
     Chain.nil)))
     hB ?_
   clear hS; intro a w F hS
   obtain ⟨F, hS⟩ := hS.nm [90, 84, 83, 82, 14, 11, 8, 7, 6, 0] [102, 62, 61, 9, 0] rfl rfl
   try dsimp only [List.map, xD, xE, xT, xU, ldSF, rPair, rDeed4, rInt, rRow] at hS
   refine then_n ?_
   refine cond_b hS rfl (fun hc6 => ?_) (fun hc6 => ?_)
   ·skip
    have hkd : ¬ (Go.Gm.nth more i).kind = 2 := by simpa using hc6
    refine wp_seq ?_
    refine region_q hS
      (cF rfl (oM .t) r1 trivial
      (cF rfl (oM .t) r1 trivial
      (cF rfl (oL true 3 102 .is) r1 r1
      (cF rfl (oP (step25_c N q5 (Go.Gm.nth more i) (by omega)) Tryd.func27 (Args.three .t .t (.pagg .t))) r3 trivial
      (cF rfl (oM .t) r1 trivial
      (cF rfl (o_extract .t rfl) r1 trivial
      (cF rfl (o_extract .t rfl) r1 trivial
      (cF rfl (oN .t) r1 trivial
      Chain.nil))))))))
      hB ?_
    clear hS; intro a w F hS
    obtain ⟨F, hS⟩ := hS.nm [84, 83, 82, 14, 11, 8, 7, 6, 0] [102, 62, 61, 9, 0] rfl rfl
    try dsimp only [List.map, xD, xE, xT, xU, ldSF, rPair, rDeed4, rInt, rRow] at hS
    obtain ⟨q6, hq6⟩ : ∃ z, z = (stepC N q5 (Go.Gm.nth more i)).1 := ⟨_, rfl⟩
    rw [← hq6] at hS
    have hq6n : InN N q6 := by rw [hq6]; exact stepC_in hq5n
    have hq6l : q6.length ≤ l.length + (i + 1) := by have := stepC_len N q5 (Go.Gm.nth more i); rw [← hq6] at this; omega
    refine then_n ?_
    refine region_q hS
      (cF rfl (oM .t) r1 trivial
      (cF rfl (oL true 3 102 .is) r1 r1
      (cF rfl (o_callG1 61 (does25_c b1 N q5 qA (Go.Gm.nth more i) (by omega)) Tryd.func28 rfl (by kernel_rfl) (Args.two .t (.pagg .t))) r2 r1
      Chain.nil)))
      hB ?_
    clear hS; intro a w F hS
    obtain ⟨F, hS⟩ := hS.nm [84, 83, 82, 11, 8, 7, 6, 0] [62, 61, 9, 0] rfl rfl
    try dsimp only [List.map, xD, xE, xT, xU, ldSF, rPair, rDeed4, rInt, rRow] at hS
    rw [← hq6, stepC_no hkd] at hS
    refine block_n (then_n ?_)
    refine region_q hS
      (cF rfl (o_add .t (.ci (by kernel_rfl))) r1 trivial
      (cF rfl (oM .t) r1 trivial
      Chain.nil))
      hB ?_
    clear hS; intro a w F hS
    obtain ⟨F, hS⟩ := hS.nm [84, 83, 82, 11, 8, 7, 6, 0] [62, 61, 9, 0] rfl rfl
    try dsimp only [rPair, rDeed4, rInt, rRow] at hS
    refine then_n ?_
    replace hS := hS.ent (i := 84) (s' := .pv (.int .i64 ((i + 1 : Nat) : Int))) rfl (.int (wrap_succ (by omega)))
    obtain ⟨F, hS⟩ := hS.nm [83, 82, 11, 7, 6, 0, 8, 84] [62, 9, 0, 61] rfl rfl
    exact ⟨((i + 1), (q6)), F, ⟨by omega, ⟨by show q6.length ≤ l.length + (i + 1); omega, hq6n⟩⟩, hS, by omega⟩
   refine wp_skip (block_n (then_n ?_))
   refine region_q hS
     (cF rfl (o_add .t (.ci (by kernel_rfl))) r1 trivial
     (cF rfl (oM .t) r1 trivial
     Chain.nil))
     hB ?_
   clear hS; intro a w F hS
   obtain ⟨F, hS⟩ := hS.nm [84, 83, 82, 11, 8, 7, 6, 0] [62, 61, 9, 0] rfl rfl
   try dsimp only [rPair, rDeed4, rInt, rRow] at hS
   refine then_n ?_
   replace hS := hS.ent (i := 84) (s' := .pv (.int .i64 ((i + 1 : Nat) : Int))) rfl (.int (wrap_succ (by omega)))
   obtain ⟨F, hS⟩ := hS.nm [83, 82, 11, 7, 6, 0, 8, 84] [62, 9, 0, 61] rfl rfl
   exact ⟨((i + 1), (q5)), F, ⟨by omega, ⟨by show q5.length ≤ l.length + (i + 1); omega, hq5n⟩⟩, hS, by omega⟩
  have hil : i = more.length := by simp at hc5; omega
  have hq5L : q5.length ≤ 120 := by omega
  refine wp_exit (then_x (then_x (block_x (then_n (wp_seq ?_)))))
  refine region_q hS
    (cF rfl (oM .t) r1 trivial
    (cF rfl (o_callG1 61 (cstale_c b1 N q5 qA) Tryd.func30 rfl (by kernel_rfl) (Args.one .t)) r1 r1
    (cF rfl (oN .t) r1 trivial
    Chain.nil)))
    hB ?_
  clear hS; intro a w F hS
  obtain ⟨F, hS⟩ := hS.nm [15, 11, 8, 7, 6, 0] [62, 61, 9, 0] rfl rfl
  try dsimp only [rPair, rDeed4, rInt, rRow] at hS
  refine then_n (wp_seq ?_)
  refine region_q hS
    (cF rfl (oM .t) r1 trivial
    (cF rfl (o_callNg 62 (conew_c (N : Int)) Tryd.func24 rfl (by kernel_rfl) (Args.one .t) PV.ptr_one) r1 r1
    (cF rfl (oN .t) r1 trivial
    Chain.nil)))
    hB ?_
  clear hS; intro a w F hS
  replace hS := hS.sub
  obtain ⟨F, hS⟩ := hS.nm [16, 15, 11, 8, 7, 6, 0] [62, 61, 9, 0] rfl rfl
  try dsimp only [RS.sub, SF.sub, CF.sub, csub, Anc.sub, List.map, rPair, rDeed4, rInt, rRow] at hS
  generalize Act.tau a 105 = v105 at hS
  obtain ⟨_, _, _, ho⟩ := hS.obGet 62 rfl
  obtain ⟨b2, rfl⟩ := coH_ptr ho
  clear ho
  replace hS := hS.turn 62 rfl (r' := RS.hp (coH (.pointer (some ⟨b2, 0, none⟩)) (roomN (N : Int)) [] [])) (fun _ _ _ _ h => h)
  obtain ⟨F, hS⟩ := hS.nm [16, 15, 11, 8, 7, 6, 0] [62, 61, 9, 0] rfl rfl
  rw [hNr] at hS
  refine then_n (wp_seq (wp_seq ?_))
  refine region_q hS
    (cF rfl (oM .t) r1 trivial
    (cF rfl (o_len_sl Tryd.underlying27 .t) r1 trivial
    (cF rfl (oM (.ci (by kernel_rfl))) trivial trivial
    Chain.nil)))
    hB ?_
  clear hS; intro a w F hS
  obtain ⟨F, hS⟩ := hS.nm [108, 107, 106, 16, 15, 11, 7, 6, 0] [62, 61, 9, 0] rfl rfl
  try dsimp only [rPair, rDeed4, rInt, rRow] at hS
  refine then_n (wp_block ?_)
  refine loop_keep (σ := (Nat) × (List PairD)) [0, 6, 7, 11, 15, 16, 106, 107] [0, 9, 61] (fun s => [(108, .pv (.int .i64 (s.1 : Int)))]) (fun s => [(62, RS.hp (coH (.pointer (some ⟨b2, 0, none⟩)) N s.2 []))]) (fun s => s.1 ≤ q5.length ∧ (s.2 = q5.take s.1)) (fun s => q5.length - s.1) ((0), ([])) hS ⟨rfl, rfl, rfl, rfl, rfl, rfl, rfl, rfl, rfl, trivial⟩ ⟨rfl, rfl, rfl, rfl, trivial⟩ ⟨Nat.zero_le _, rfl⟩ ?_
  clear hS; intro s a w F hC hS
  obtain ⟨i, qf⟩ := s
  try dsimp only at hC
  obtain ⟨F, hS⟩ := hS.nm [108, 107, 106, 16, 15, 11, 7, 6, 0] [62, 61, 9, 0] rfl rfl
  try dsimp only at hS
  obtain ⟨hi, hq⟩ := hC
  have hqfl : qf.length ≤ i := by rw [hq, List.length_take]; omega
  refine wp_seq ?_
  refine region_q hS
    (cF rfl (o_lss .t .t) r2 trivial
    Chain.nil)
    hB ?_
  clear hS; intro a w F hS
  obtain ⟨F, hS⟩ := hS.nm [109, 108, 107, 106, 16, 15, 11, 7, 6, 0] [62, 61, 9, 0] rfl rfl
  try dsimp only [rPair, rDeed4, rInt, rRow] at hS
  refine then_n (wp_seq ?_)
  refine cond_b hS rfl (fun hc7 => ?_) (fun hc7 => ?_)
  ·skip
   have hil : i < q5.length := by simp at hc7; omega
   refine wp_skip (then_n (wp_seq (wp_block (wp_seq ?_))))
   refine region_q hS
     (cF rfl (o_indexAddr_sl (sz := 2) (.mk Tryd.underlying27 (by kernel_rfl)) (by intro x; rfl) .t .t (by omega) (by omega)) r2 trivial
     (cF rfl (oR true 2 .t) r1 trivial
     (cF rfl (oH [.int .i64 0, .int .i64 0] 103) trivial trivial
     (cF rfl (oA 2 103 .same .t) r2 r1
     Chain.nil))))
     hB ?_
   clear hS; intro a w F hS
   replace hS := hS.sub
   obtain ⟨F, hS⟩ := hS.nm [108, 107, 106, 18, 16, 15, 11, 7, 6, 0] [103, 62, 61, 9, 0] rfl rfl
   try dsimp only [RS.sub, SF.sub, CF.sub, csub, Anc.sub, List.map, stCells, xL, xM, Nat.reduceAdd, xD, xE, xT, xU, xC, xN, zCF, ldSF, rPair, rDeed4, rInt, rRow] at hS
   generalize Act.tau a 18 = v18 at hS
   try simp only [Int.toNat_natCast] at hS
   refine then_n ?_
   refine region_q hS
     (cF rfl (oM .t) r1 trivial
     (cF rfl (oF 0 103 .is) r1 r1
     (cF rfl (oL false 1 103 .adr) r1 r1
     (cF rfl (oF 1 103 .is) r1 r1
     (cF rfl (oL false 1 103 .adr) r1 r1
     (cF rfl (o_callG1 62 (cadd_c b2 N qf [] (Go.Gm.nth q5 i).key (Go.Gm.nth q5 i).val (by omega)) Tryd.func40 rfl (by kernel_rfl) (Args.three .t .t .t)) r3 r1
     Chain.nil))))))
     hB ?_
   clear hS; intro a w F hS
   obtain ⟨F, hS⟩ := hS.nm [108, 107, 106, 16, 15, 11, 7, 6, 0] [62, 61, 9, 0] rfl rfl
   try dsimp only [List.map, xD, xE, xT, xU, ldSF, rPair, rDeed4, rInt, rRow] at hS
   rw [step_app (hq5n _ (nth_mem hil))] at hS
   refine block_n (then_n ?_)
   refine region_q hS
     (cF rfl (o_add .t (.ci (by kernel_rfl))) r1 trivial
     (cF rfl (oM .t) r1 trivial
     Chain.nil))
     hB ?_
   clear hS; intro a w F hS
   obtain ⟨F, hS⟩ := hS.nm [108, 107, 106, 16, 15, 11, 7, 6, 0] [62, 61, 9, 0] rfl rfl
   try dsimp only [rPair, rDeed4, rInt, rRow] at hS
   refine then_n ?_
   replace hS := hS.ent (i := 108) (s' := .pv (.int .i64 ((i + 1 : Nat) : Int))) rfl (.int (wrap_succ (by omega)))
   obtain ⟨F, hS⟩ := hS.nm [107, 106, 16, 15, 11, 7, 6, 0, 108] [61, 9, 0, 62] rfl rfl
   exact ⟨((i + 1), ((qf ++ [(Go.Gm.nth q5 i)]))), F, ⟨by omega, (by rw [take_nth hil, ← hq])⟩, hS, by omega⟩
  have hil : i = q5.length := by simp at hc7; omega
  have hqf : qf = q5 := by rw [hq, hil, List.take_length]
  rw [hqf] at hS
  obtain ⟨F, hS⟩ := Sat.giveL (p := coF N q5) hS 61 7 rfl rfl coH_read
  obtain ⟨F, hS⟩ := hS.nm [109, 108, 107, 106, 16, 15, 11, 7, 6, 0] [62, 9, 0] rfl rfl
  obtain ⟨F, hS⟩ := Sat.giveL (p := coF N q5) hS 62 16 rfl rfl coH_read
  obtain ⟨F, hS⟩ := hS.nm [109, 108, 107, 106, 16, 15, 11, 7, 6, 0] [9, 0] rfl rfl
  refine wp_exit (then_x (then_x (block_x (then_n (wp_seq (wp_seq ?_))))))
  refine region_q hS
    (cF rfl (oN (.ci (by kernel_rfl))) trivial trivial
    Chain.nil)
    hB ?_
  clear hS; intro a w F hS
  obtain ⟨F, hS⟩ := hS.nm [19, 16, 15, 11, 7, 6, 0] [9, 0] rfl rfl
  try dsimp only [rPair, rDeed4, rInt, rRow] at hS
  refine then_n (wp_block ?_)
  refine loop_keep (σ := Nat) [0, 6, 7, 11, 15, 16] [0, 9] (fun s => [(19, .pv (.int .i64 (s : Int)))]) (fun s => []) (fun s => s ≤ N) (fun s => N - s) (0) hS ⟨rfl, rfl, rfl, rfl, rfl, rfl, rfl, trivial⟩ ⟨rfl, rfl, trivial⟩ (Nat.zero_le _) ?_
  clear hS; intro u a w F hC hS
  try dsimp only at hC
  obtain ⟨F, hS⟩ := hS.nm [19, 16, 15, 11, 7, 6, 0] [9, 0] rfl rfl
  try dsimp only at hS
  have hu : u ≤ N := hC
  refine wp_seq (wp_seq ?_)
  refine region_q hS
    (cF rfl (oM .t) r1 trivial
    (cF rfl (oM .t) r1 trivial
    (cF rfl (o_lss .t .t) r2 trivial
    Chain.nil)))
    hB ?_
  clear hS; intro a w F hS
  obtain ⟨F, hS⟩ := hS.nm [121, 19, 16, 15, 11, 7, 6, 0] [9, 0] rfl rfl
  try dsimp only [rPair, rDeed4, rInt, rRow] at hS
  refine then_n ?_
  refine cond_b hS rfl (fun hc8 => ?_) (fun hc8 => ?_)
  ·skip
   have huN : u < N := by simp at hc8; omega
   have hth : There N (u : Int) := ⟨by omega, by omega⟩
   have hrm : (Go.Gm.nth ((List.range N).map fun k : Nat => memB N qA (k : Int)) u) = memB N qA (u : Int) := by rw [nth_eq (by rw [List.length_map, List.length_range]; exact huN)]; simp
   refine wp_skip (then_n (wp_seq (wp_block (wp_seq ?_))))
   refine region_q hS
     (cF rfl (oM .t) r1 trivial
     (cF rfl (oM .t) r1 trivial
     (cF rfl (oP (label_c N q5 (u : Int) (by omega) hq5n (by omega)) Tryd.func34 (Args.two .t .t)) r2 trivial
     (cF rfl (oM .t) r1 trivial
     (cF rfl (o_extract .t rfl) r1 trivial
     (cF rfl (o_extract .t rfl) r1 trivial
     (cF rfl (oN .t) r1 trivial
     (cF rfl (oN .t) r1 trivial
     Chain.nil))))))))
     hB ?_
   clear hS; intro a w F hS
   obtain ⟨F, hS⟩ := hS.nm [20, 19, 16, 15, 11, 7, 6, 0] [9, 0] rfl rfl
   try dsimp only [rPair, rDeed4, rInt, rRow] at hS
   refine then_n (wp_seq ?_)
   refine region_any (by kernel_rfl) hS (by kernel_rfl)
     (cF rfl (oM .t) r1 trivial
     (cF rfl (oM .t) r1 trivial
     (cF rfl (oP (in_c (staleQ N q5 qA) (labB N q5 (u : Int)) (by have := stale_len N q5 qA; omega)) Tryd.func22 (Args.two .t .t)) r2 trivial
     (cF rfl (o_not .t) r1 trivial
     (cF rfl (oM .t) r1 trivial
     (Chain.cons (Cert.cond rfl rfl (fun h => o_move .t (by rfl))) r2 trivial
     (Chain.cons (Cert.cond rfl rfl (fun h => o_move .t (by rfl))) r2 trivial
     (Chain.cons (Cert.cond rfl rfl (fun h => o_callP (membersP_c N q5 (u : Int) (by omega) hq5n (by omega)) Tryd.func37 rfl (by kernel_rfl) (Args.two (.w h) (.w h)))) r3 trivial
     (Chain.cons (Cert.cond rfl rfl (fun h => o_move .t (by rfl))) r2 trivial
     (Chain.cons (Cert.cond rfl rfl (fun h => o_move .t (by rfl))) r2 trivial
     (Chain.cons (Cert.cond rfl rfl (fun h => o_indexAddr_sl (sz := 1) (.mk Tryd.underlying28 (by kernel_rfl)) (by intro x; rfl) (.w h) (.w h) (by omega) (by rw [List.length_map, List.length_range]; omega))) r3 trivial
     (Chain.cons (Cert.cond rfl rfl (fun h => o_load_ref (ag := false) (sz := 1) (.w h) (by kernel_rfl) (by kernel_rfl) (by kernel_rfl))) r2 trivial
     (Chain.cons (Cert.cond rfl rfl (fun h => o_callP (sameInts_c (memB N q5 (u : Int)) (Go.Gm.nth ((List.range N).map fun k : Nat => memB N qA (k : Int)) u)) Tryd.func18 rfl (by kernel_rfl) (Args.two (.w h) (.w h)))) r3 trivial
     (Chain.cons (Cert.cond rfl rfl (fun h => o_not (.w h))) r2 trivial
     (cF rfl (o_and2 .t .t) r2 trivial
     (cF rfl (oM .t) r1 trivial
     (Chain.cons (Cert.cond rfl rfl (fun h => o_move .t (by rfl))) r2 trivial
     (Chain.cons (Cert.cond rfl rfl (fun h => o_move .t (by rfl))) r2 trivial
     (Chain.cons (Cert.cond rfl rfl (fun h => o_callP (membersP_c N q5 (u : Int) (by omega) hq5n (by omega)) Tryd.func37 rfl (by kernel_rfl) (Args.two (.w h) (.w h)))) r3 trivial
     (Chain.cons (Cert.cond rfl rfl (fun h => o_move .t (by rfl))) r2 trivial
     (Chain.cons (Cert.cond rfl rfl (fun h => o_move .t (by rfl))) r2 trivial
     (Chain.cons (Cert.cond rfl rfl (fun h => o_callP (membersP_c N q5 (u : Int) (by omega) hq5n (by omega)) Tryd.func37 rfl (by kernel_rfl) (Args.two (.w h) (.w h)))) r3 trivial
     (Chain.cons (Cert.cond rfl rfl (fun h => o_callP (sameInts_c (memB N q5 (u : Int)) (memB N q5 (u : Int))) Tryd.func18 rfl (by kernel_rfl) (Args.two (.w h) (.w h)))) r3 trivial
     (Chain.cons (Cert.cond rfl rfl (fun h => o_not (.w h))) r2 trivial
     (cF rfl (o_or2 .t .t) r2 trivial
     (cF rfl (oM .t) r1 trivial
     (Chain.cons (Cert.cond rfl rfl (fun h => o_move .t (by rfl))) r2 trivial
     (Chain.cons (Cert.cond rfl rfl (fun h => o_move .t (by rfl))) r2 trivial
     (Chain.cons (Cert.cond rfl rfl (fun h => o_callP (cround_c N q5 (u : Int)) Tryd.func38 rfl (by kernel_rfl) (Args.two (.w h) (.w h)))) r3 trivial
     (Chain.cons (Cert.cond rfl rfl (fun h => o_move .t (by rfl))) r2 trivial
     (Chain.cons (Cert.cond rfl rfl (fun h => o_move .t (by rfl))) r2 trivial
     (Chain.cons (Cert.cond rfl rfl (fun h => o_callP (cround_c N q5 (u : Int)) Tryd.func38 rfl (by kernel_rfl) (Args.two (.w h) (.w h)))) r3 trivial
     (Chain.cons (Cert.cond rfl rfl (fun h => o_neqB Tryd.underlying4 (.w h) (.w h))) r3 trivial
     (cF rfl (o_or2 .t .t) r2 trivial
     Chain.nil))))))))))))))))))))))))))))))))))
     (by kernel_rfl) (by rw [hB]; kernel_rfl) ?_
   clear hS; intro a w F hS
   obtain ⟨F, hS⟩ := hS.nm [163, 19, 16, 15, 11, 7, 6, 0] [9, 0] rfl rfl
   try dsimp only [List.map, xD, xE, xT, xU, ldSF, rPair, rDeed4, rInt, rRow] at hS
   try simp only [Int.toNat_natCast] at hS
   refine then_n ?_
   refine cond_b hS rfl (fun hc9 => ?_) (fun hc9 => ?_)
   ·skip
    by_cases hst : labB N q5 (u : Int) ∈ staleQ N q5 qA
    · simp [hst] at hc9
    · have h8 : (memB N q5 (u : Int)) = (Go.Gm.nth ((List.range N).map fun k : Nat => memB N qA (k : Int)) u) := by rw [hrm]; unfold memB; rw [if_pos hth, if_pos hth]; exact fresh_same hth (by unfold labB at hst; rwa [if_pos hth] at hst)
      rw [h8] at hc9; simp at hc9
   refine wp_skip (block_n (then_n ?_))
   refine region_q hS
     (cF rfl (oM .t) r1 trivial
     (cF rfl (o_add .t (.ci (by kernel_rfl))) r1 trivial
     (cF rfl (oN .t) r1 trivial
     Chain.nil)))
     hB ?_
   clear hS; intro a w F hS
   obtain ⟨F, hS⟩ := hS.nm [19, 16, 15, 11, 7, 6, 0] [9, 0] rfl rfl
   try dsimp only [rPair, rDeed4, rInt, rRow] at hS
   refine then_n ?_
   replace hS := hS.ent (i := 19) (s' := .pv (.int .i64 ((u + 1 : Nat) : Int))) rfl (.int (wrap_succ (by omega)))
   obtain ⟨F, hS⟩ := hS.nm [16, 15, 11, 7, 6, 0, 19] [9, 0] rfl rfl
   exact ⟨(u + 1), F, (by show u + 1 ≤ N; omega), hS, (by show N - (u + 1) < N - u; omega)⟩
  refine wp_exit (then_x (then_x (block_x (then_n (wp_seq ?_)))))
  refine region_q hS
    (cF rfl (oN .cb) trivial trivial
    Chain.nil)
    hB ?_
  clear hS; intro a w F hS
  obtain ⟨F, hS⟩ := hS.nm [6] [9, 0] rfl rfl
  try dsimp only [rPair, rDeed4, rInt, rRow] at hS
  refine then_n (wp_ret ?_)
  refine ret_P hfr hS rfl (.tmp rfl .nil) (.one (.bool (by first | rfl | simp)))

end Go.Proofs.YtpahapjcdldodaaDoor
