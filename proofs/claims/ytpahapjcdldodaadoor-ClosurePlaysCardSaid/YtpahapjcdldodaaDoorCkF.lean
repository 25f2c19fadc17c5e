/- ClosureWay. No condition beyond those that each theorem says. -/
import Derived.Test.YtpahapjcdldodaaDoorCkE
namespace Go.Proofs.YtpahapjcdldodaaDoor
open Go Go.Gm
set_option linter.unusedVariables false
set_option linter.unusedSimpArgs false
set_option maxHeartbeats 4000000
set_option maxRecDepth 8000


/-- Arcs that may be there. -/
def okP (N : Nat) (p : PairD) : Bool := decide (There N p.key ∧ There N p.val)
theorem okP_iff {N : Nat} {p : PairD} : okP N p = true ↔ There N p.key ∧ There N p.val := decide_eq_true_iff
theorem add_ok {N : Nat} {q : List PairD} {p : PairD} (h : okP N p = true) : stepQ N q ⟨0, p.key, p.val⟩ = (q ++ [p], 0) := by
  unfold stepQ
  rw [if_pos (okP_iff.1 h), if_pos rfl]
theorem add_no {N : Nat} {q : List PairD} {p : PairD} (h : ¬ okP N p = true) : stepQ N q ⟨0, p.key, p.val⟩ = (q, 1) := stepQ_out fun k => h (okP_iff.2 k)
theorem add_zero {N : Nat} {q : List PairD} {p : PairD} (h : (stepQ N q ⟨0, p.key, p.val⟩).2 = 0) : okP N p = true := by
  by_cases k : okP N p = true
  · exact k
  · rw [add_no k] at h; simp at h
theorem add_one {N : Nat} {q : List PairD} {p : PairD} (h : ¬ (stepQ N q ⟨0, p.key, p.val⟩).2 = 0) : ¬ okP N p = true := fun k => by rw [add_ok k] at h; simp at h
theorem drop_ok {N : Nat} {q : List PairD} {p : PairD} (hq : InN N q) (h : 0 < q.count p) : stepQ N q ⟨1, p.key, p.val⟩ = (q.erase p, 0) := by
  have hm : p ∈ q := List.count_pos_iff.1 h
  unfold stepQ
  rw [if_pos (hq p hm), if_neg (show ¬ (1 : Int) = 0 by decide), if_neg (by show ¬ q.count p = 0; omega)]
theorem fil_next {N : Nat} {l : List PairD} {i : Nat} (h : i < l.length) : (l.take (i + 1)).filter (okP N) = (l.take i).filter (okP N) ++ (if okP N (Go.Gm.nth l i) = true then [Go.Gm.nth l i] else []) := by
  rw [take_nth h, List.filter_append]
  congr 1
  by_cases k : okP N (Go.Gm.nth l i) = true <;> simp [k]
theorem fil_over {N : Nat} {l : List PairD} {i : Nat} (h : ¬ i < l.length) : (l.take (i + 1)).filter (okP N) = (l.take i).filter (okP N) := by
  rw [List.take_of_length_le (by omega), List.take_of_length_le (by omega)]
/-- Arcs of two lists. -/
structure WayA (N : Nat) (q A B : List PairD) (k : Nat) : Prop where
  inn : InN N q
  cnt : ∀ p, q.count p = A.count p + B.count p
  len : q.length ≤ k
theorem WayA.left {N : Nat} {q A B : List PairD} {k : Nat} {p : PairD} (h : WayA N q A B k) (hp : okP N p = true) : WayA N (q ++ [p]) (A ++ [p]) B (k + 1) :=
  ⟨h.inn.add (okP_iff.1 hp).1 (okP_iff.1 hp).2, fun x => by rw [List.count_append, List.count_append, h.cnt x]; omega, by rw [List.length_append, List.length_singleton]; have := h.len; omega⟩
theorem WayA.right {N : Nat} {q A B : List PairD} {k : Nat} {p : PairD} (h : WayA N q A B k) (hp : okP N p = true) : WayA N (q ++ [p]) A (B ++ [p]) (k + 1) :=
  ⟨h.inn.add (okP_iff.1 hp).1 (okP_iff.1 hp).2, fun x => by rw [List.count_append, List.count_append, h.cnt x]; omega, by rw [List.length_append, List.length_singleton]; have := h.len; omega⟩
theorem WayA.more {N : Nat} {q A B : List PairD} {k m : Nat} (h : WayA N q A B k) (hm : k ≤ m) : WayA N q A B m := ⟨h.inn, h.cnt, Nat.le_trans h.len hm⟩
theorem WayA.drop {N : Nat} {q A B : List PairD} {k : Nat} {p : PairD} (h : WayA N q A (p :: B) k) : WayA N (q.erase p) A B k ∧ 0 < q.count p := by
  have h0 : 0 < q.count p := by rw [h.cnt p]; simp; omega
  refine ⟨⟨h.inn.erase, fun x => ?_, Nat.le_trans List.length_erase_le h.len⟩, h0⟩
  have hx := h.cnt x
  by_cases e : x = p
  · subst e; rw [List.count_erase_self]; simp at hx; omega
  · rw [List.count_erase_of_ne e, hx, List.count_cons_of_ne fun k => e k.symm]
theorem way_reach {N : Nat} {q l qb : List PairD} {k : Nat} (h : WayA N q (l.filter (okP N)) [] k) (hb : qb = l.reverse.filter (okP N)) (x : Int) : reachQ q x = reachQ qb x := reachQ_congr (fun p => by
  rw [← List.count_pos_iff, h.cnt p, hb]
  rw [List.count_nil, Nat.add_zero, List.count_pos_iff, List.mem_filter, List.mem_filter, List.mem_reverse]) x
theorem nth_rev {l : List PairD} {i : Nat} (h : i < l.length) : Go.Gm.nth l (l.length - 1 - i) = Go.Gm.nth l.reverse i := by
  rw [nth_eq (by omega), nth_eq (by rw [List.length_reverse]; exact h), List.getElem_reverse]
theorem reach_trans {q : List PairD} {u v w : Int} (h1 : v ∈ reachQ q u) (h2 : w ∈ reachQ q v) : w ∈ reachQ q u := ((reachQ_spec q u).2 w).2 ((((reachQ_spec q u).2 v).1 h1).trans (((reachQ_spec q v).2 w).1 h2))
theorem rowB_in {n : Nat} {q : List PairD} {u : Int} (h : There n u) : rowB n q u = reachQ q u := if_pos h

theorem cway_c (n : Int) (l more : List PairD) : FnPg Tryd.prog tabP tabV 4 [.int .i64 n, .sl rPair l, .sl rPair more] (.bool true) := by
  refine FnPg.mk Tryd.func4 rfl Tryd.ntmps4 rfl ?_
  intro B a w F hB hfr hS
  have hll := Sat.lenSl hS (i := 1) rfl
  have hml := Sat.lenSl hS (i := 2) rfl
  refine wp_seq ?_
  refine region_q hS
    (cF rfl (oN .cb) trivial trivial
    Chain.nil)
    hB ?_
  clear hS; intro a w F hS
  obtain ⟨F, hS⟩ := hS.nm [6, 2, 1, 0] [9, 0] rfl rfl
  try dsimp only [rPair, rInt] at hS
  refine then_n (wp_seq (wp_seq ?_))
  refine region_q hS
    (cF rfl (o_callPg 9 (lives_c) Tryd.func8 rfl (by kernel_rfl) Args.nil) trivial r1
    (cF rfl (o_not .t) r1 trivial
    Chain.nil))
    hB ?_
  clear hS; intro a w F hS
  obtain ⟨F, hS⟩ := hS.nm [22, 6, 2, 1, 0] [9, 0] rfl rfl
  try dsimp only [rPair, rInt] at hS
  refine then_n ?_
  refine cond_b hS rfl (fun hc0 => ?_) (fun hc0 => ?_)
  ·skip
   simp at hc0
  refine wp_skip (then_n (wp_seq (wp_seq ?_)))
  refine region_q hS
    (cF rfl (oM .t) r1 trivial
    (cF rfl (o_lss .t (.ci (by kernel_rfl))) r1 trivial
    (cF rfl (oM .t) r1 trivial
    (Chain.cons (Cert.cond rfl rfl (fun h => o_move .t (by rfl))) r2 trivial
    (Chain.cons (Cert.cond rfl rfl (fun h => o_gtr (.w h) (.ci (by kernel_rfl)))) r2 trivial
    (cF rfl (o_or2 .t .t) r2 trivial
    (cF rfl (oM .t) r1 trivial
    (Chain.cons (Cert.cond rfl rfl (fun h => o_move .t (by rfl))) r2 trivial
    (Chain.cons (Cert.cond rfl rfl (fun h => o_len_sl Tryd.underlying27 (.w h))) r2 trivial
    (Chain.cons (Cert.cond rfl rfl (fun h => o_gtr (.w h) (.ci (by kernel_rfl)))) r2 trivial
    (cF rfl (o_or2 .t .t) r2 trivial
    (cF rfl (oM .t) r1 trivial
    (Chain.cons (Cert.cond rfl rfl (fun h => o_move .t (by rfl))) r2 trivial
    (Chain.cons (Cert.cond rfl rfl (fun h => o_len_sl Tryd.underlying27 (.w h))) r2 trivial
    (Chain.cons (Cert.cond rfl rfl (fun h => o_gtr (.w h) (.ci (by kernel_rfl)))) r2 trivial
    (cF rfl (o_or2 .t .t) r2 trivial
    Chain.nil))))))))))))))))
    hB ?_
  clear hS; intro a w F hS
  obtain ⟨F, hS⟩ := hS.nm [38, 6, 2, 1, 0] [9, 0] rfl rfl
  try dsimp only [rPair, rInt] at hS
  refine then_n ?_
  refine cond_b hS rfl (fun hc1 => ?_) (fun hc1 => ?_)
  ·skip
   refine wp_seq ?_
   refine region_q hS
     (cF rfl (oN .cb) trivial trivial
     Chain.nil)
     hB ?_
   clear hS; intro a w F hS
   obtain ⟨F, hS⟩ := hS.nm [6, 2, 1, 0] [9, 0] rfl rfl
   try dsimp only [rPair, rInt] at hS
   refine then_n (wp_ret (then_r ?_))
   refine ret_P hfr hS rfl (.tmp rfl .nil) (.one .refl)
  have hnb : 1 ≤ n ∧ n ≤ 30 ∧ l.length ≤ 60 ∧ more.length ≤ 60 := by simp at hc1; omega
  obtain ⟨N, rfl⟩ := Int.eq_ofNat_of_zero_le (show 0 ≤ n by omega)
  have hNr : roomN (N : Int) = N := by unfold roomN; rw [if_neg (by omega), if_neg (by omega)]; rfl
  refine wp_skip (then_n (wp_seq ?_))
  replace hS := hS.dupG 9 61 rfl rfl
  replace hS := hS.dupG 9 62 rfl rfl
  refine region_q hS
    (cF rfl (oM .t) r1 trivial
    (cF rfl (o_callNg 61 (cnew_c (N : Int)) Tryd.func7 rfl (by kernel_rfl) (Args.one .t) PV.ptr_one) r1 r1
    (cF rfl (oM .t) r1 trivial
    (cF rfl (o_callNg 62 (cnew_c (N : Int)) Tryd.func7 rfl (by kernel_rfl) (Args.one .t) PV.ptr_one) r1 r1
    (cF rfl (oN .t) r1 trivial
    (cF rfl (oN .t) r1 trivial
    Chain.nil))))))
    hB ?_
  clear hS; intro a w F hS
  replace hS := hS.sub
  obtain ⟨F, hS⟩ := hS.nm [8, 7, 6, 2, 1, 0] [62, 61, 9, 0] rfl rfl
  try dsimp only [RS.sub, SF.sub, CF.sub, csub, Anc.sub, List.map, rPair, rInt] at hS
  generalize Act.tau a 40 = v40 at hS
  generalize Act.tau a 42 = v42 at hS
  obtain ⟨_, _, _, ho⟩ := hS.obGet 61 rfl
  obtain ⟨b1, rfl⟩ := clH_ptr ho
  clear ho
  replace hS := hS.turn 61 rfl (r' := RS.hp (clH (.pointer (some ⟨b1, 0, none⟩)) (roomN (N : Int)) [] [])) (fun _ _ _ _ h => h)
  obtain ⟨F, hS⟩ := hS.nm [8, 7, 6, 2, 1, 0] [62, 61, 9, 0] rfl rfl
  obtain ⟨_, _, _, ho⟩ := hS.obGet 62 rfl
  obtain ⟨b2, rfl⟩ := clH_ptr ho
  clear ho
  replace hS := hS.turn 62 rfl (r' := RS.hp (clH (.pointer (some ⟨b2, 0, none⟩)) (roomN (N : Int)) [] [])) (fun _ _ _ _ h => h)
  obtain ⟨F, hS⟩ := hS.nm [8, 7, 6, 2, 1, 0] [62, 61, 9, 0] rfl rfl
  rw [hNr] at hS
  refine then_n (wp_seq (wp_seq ?_))
  refine region_q hS
    (cF rfl (oM .t) r1 trivial
    (cF rfl (o_nil_eql _ Tryd.underlying23 rfl .t) r1 trivial
    (cF rfl (oM .t) r1 trivial
    (Chain.cons (Cert.cond rfl rfl (fun h => o_move .t (by rfl))) r2 trivial
    (Chain.cons (Cert.cond rfl rfl (fun h => o_nil_eql _ Tryd.underlying23 rfl (.w h))) r2 trivial
    (cF rfl (o_or2 .t .t) r2 trivial
    Chain.nil))))))
    hB ?_
  clear hS; intro a w F hS
  obtain ⟨F, hS⟩ := hS.nm [48, 8, 7, 6, 2, 1, 0] [62, 61, 9, 0] rfl rfl
  try dsimp only [rPair, rInt] at hS
  refine then_n ?_
  refine cond_b hS rfl (fun hc2 => ?_) (fun hc2 => ?_)
  ·skip
   simp at hc2
  refine wp_skip (then_n (wp_seq ?_))
  refine region_q hS
    (cF rfl (oN (.c rfl)) trivial trivial
    Chain.nil)
    hB ?_
  clear hS; intro a w F hS
  obtain ⟨F, hS⟩ := hS.nm [9, 8, 7, 6, 2, 1, 0] [62, 61, 9, 0] rfl rfl
  try dsimp only [rPair, rInt] at hS
  refine then_n (wp_seq (wp_seq ?_))
  refine region_q hS
    (cF rfl (oN (.ci (by kernel_rfl))) trivial trivial
    Chain.nil)
    hB ?_
  clear hS; intro a w F hS
  obtain ⟨F, hS⟩ := hS.nm [10, 9, 8, 7, 6, 2, 1, 0] [62, 61, 9, 0] rfl rfl
  try dsimp only [rPair, rInt] at hS
  refine then_n (wp_block ?_)
  replace hS := hS.fresh 50 rfl
  replace hS := hS.turn 50 rfl (nilRow (T := 48) (sz := 2) (R := rPair))
  refine loop_keep (σ := Nat × List PairD × List Int × Value × List PairD) [0, 1, 2, 6, 7, 8] [0, 9, 62] (fun s => [(10, .pv (.int .i64 (s.1 : Int))), (9, .pv (.is s.2.2.2.1))]) (fun s => [(61, RS.hp (clH (.pointer (some ⟨b1, 0, none⟩)) N s.2.1 s.2.2.1)), (50, .ob (.val s.2.2.2.1) (rowH 48 2 rPair s.2.2.2.2))]) (fun s => WayA N s.2.1 ((l.take s.1).filter (okP N)) s.2.2.2.2 (2 * s.1) ∧ s.2.2.2.2 = ((more.take s.1).filter (okP N)) ∧ s.1 ≤ 60) (fun s => 60 - s.1) ((0), ([]), ([]), (.slice none 0 0), ([])) hS ⟨rfl, rfl, rfl, rfl, rfl, rfl, rfl, rfl, trivial⟩ ⟨rfl, rfl, rfl, rfl, rfl, trivial⟩ ⟨⟨fun p hp => (by cases hp), fun p => rfl, Nat.le_refl 0⟩, rfl, Nat.zero_le _⟩ ?_
  clear hS; intro s a w F hC hS
  obtain ⟨i, qa, la, w9, ad⟩ := s
  try dsimp only at hC
  obtain ⟨F, hS⟩ := hS.nm [10, 9, 8, 7, 6, 2, 1, 0] [62, 61, 50, 9, 0] rfl rfl
  try dsimp only at hS
  obtain ⟨hW, had, hi60⟩ := hC
  have hWl := hW.len
  have hadl : ad.length ≤ i := by rw [had]; exact Nat.le_trans (List.length_filter_le _ _) (by rw [List.length_take]; omega)
  refine wp_seq (wp_seq ?_)
  refine region_q hS
    (cF rfl (oM .t) r1 trivial
    (cF rfl (oM .t) r1 trivial
    (cF rfl (o_len_sl Tryd.underlying27 .t) r1 trivial
    (cF rfl (o_lss .t .t) r2 trivial
    (cF rfl (oM .t) r1 trivial
    (Chain.cons (Cert.cond rfl rfl (fun h => o_move .t (by rfl))) r2 trivial
    (Chain.cons (Cert.cond rfl rfl (fun h => o_move .t (by rfl))) r2 trivial
    (Chain.cons (Cert.cond rfl rfl (fun h => o_len_sl Tryd.underlying27 (.w h))) r2 trivial
    (Chain.cons (Cert.cond rfl rfl (fun h => o_lss (.w h) (.w h))) r3 trivial
    (cF rfl (o_or2 .t .t) r2 trivial
    Chain.nil))))))))))
    hB ?_
  clear hS; intro a w F hS
  obtain ⟨F, hS⟩ := hS.nm [58, 10, 9, 8, 7, 6, 2, 1, 0] [62, 61, 50, 9, 0] rfl rfl
  try dsimp only [rPair, rInt] at hS
  refine then_n ?_
  refine cond_b hS rfl (fun hc3 => ?_) (fun hc3 => ?_)
  ·skip
   have hlt : i < l.length ∨ i < more.length := by simp at hc3; omega
   refine wp_skip (then_n (wp_seq (wp_block (wp_seq (wp_seq ?_)))))
   refine region_q hS
     (cF rfl (oM .t) r1 trivial
     (cF rfl (oM .t) r1 trivial
     (cF rfl (o_len_sl Tryd.underlying27 .t) r1 trivial
     (cF rfl (o_lss .t .t) r2 trivial
     Chain.nil))))
     hB ?_
   clear hS; intro a w F hS
   obtain ⟨F, hS⟩ := hS.nm [64, 10, 9, 8, 7, 6, 2, 1, 0] [62, 61, 50, 9, 0] rfl rfl
   try dsimp only [rPair, rInt] at hS
   refine then_n ?_
   refine cond_b hS rfl (fun hc4 => ?_) (fun hc4 => ?_)
   ·skip
    have hil1 : i < l.length := by simp at hc4; omega
    refine region_any (by kernel_rfl) hS (by kernel_rfl)
      (cF rfl (oM .t) r1 trivial
      (cF rfl (oM .t) r1 trivial
      (cF rfl (oM .t) r1 trivial
      (cF rfl (o_indexAddr_sl (sz := 2) (.mk Tryd.underlying27 (by kernel_rfl)) (by intro x; rfl) .t .t (by omega) (by omega)) r2 trivial
      (cF rfl (oG 0 .t) r1 trivial
      (cF rfl (oR false 1 .t) r1 trivial
      (cF rfl (oM .t) r1 trivial
      (cF rfl (oM .t) r1 trivial
      (cF rfl (o_indexAddr_sl (sz := 2) (.mk Tryd.underlying27 (by kernel_rfl)) (by intro x; rfl) .t .t (by omega) (by omega)) r2 trivial
      (cF rfl (oG 1 .t) r1 trivial
      (cF rfl (oR false 1 .t) r1 trivial
      (cF rfl (o_callG1 61 (add_c b1 N qa la (Go.Gm.nth l i).key (Go.Gm.nth l i).val (by omega)) Tryd.func12 rfl (by kernel_rfl) (Args.three .t .t .t)) r3 r1
      Chain.nil))))))))))))
      (by kernel_rfl) (by rw [hB]; kernel_rfl) ?_
    clear hS; intro a w F hS
    obtain ⟨F, hS⟩ := hS.nm [10, 9, 8, 7, 6, 2, 1, 0] [62, 61, 50, 9, 0] rfl rfl
    try dsimp only [List.map, xD, xE, xT, xU, ldSF, rPair, rInt] at hS
    try simp only [Int.toNat_natCast] at hS
    obtain ⟨qa1, hqa1⟩ : ∃ z, z = (stepQ N qa ⟨0, (Go.Gm.nth l i).key, (Go.Gm.nth l i).val⟩).1 := ⟨_, rfl⟩
    obtain ⟨la1, hla1⟩ : ∃ z, z = lastD N qa la ⟨0, (Go.Gm.nth l i).key, (Go.Gm.nth l i).val⟩ := ⟨_, rfl⟩
    rw [← hqa1, ← hla1] at hS
    have hW1 : WayA N qa1 ((l.take (i + 1)).filter (okP N)) ad (2 * i + 1) := by
      rw [hqa1, fil_next hil1]
      by_cases hok : okP N (Go.Gm.nth l i) = true
      · rw [add_ok hok, if_pos hok]; exact hW.left hok
      · rw [add_no hok, if_neg hok, List.append_nil]; exact hW.more (by omega)
    refine then_n (wp_seq ?_)
    refine region_any (by kernel_rfl) hS (by kernel_rfl)
      (cF rfl (oM .t) r1 trivial
      (cF rfl (oM .t) r1 trivial
      (cF rfl (o_len_sl Tryd.underlying27 .t) r1 trivial
      (cF rfl (o_lss .t .t) r2 trivial
      (cF rfl (oM .t) r1 trivial
      (Chain.cons (Cert.cond rfl rfl (fun h => o_move .t (by rfl))) r2 trivial
      (Chain.cons (Cert.cond rfl rfl (fun h => o_move .t (by rfl))) r2 trivial
      (Chain.cons (Cert.cond rfl rfl (fun h => o_move .t (by rfl))) r2 trivial
      (Chain.cons (Cert.cond rfl rfl (fun h => o_indexAddr_sl (sz := 2) (.mk Tryd.underlying27 (by kernel_rfl)) (by intro x; rfl) (.w h) (.w h) (by omega) (by simp at h; omega))) r3 trivial
      (Chain.cons (Cert.cond rfl rfl (fun h => o_fieldAddr_ref (off := 0) (.w h) (by kernel_rfl))) r2 trivial
      (Chain.cons (Cert.cond rfl rfl (fun h => o_load_ref (ag := false) (sz := 1) (.w h) (by kernel_rfl) (by kernel_rfl) (by kernel_rfl))) r2 trivial
      (Chain.cons (Cert.cond rfl rfl (fun h => o_move .t (by rfl))) r2 trivial
      (Chain.cons (Cert.cond rfl rfl (fun h => o_move .t (by rfl))) r2 trivial
      (Chain.cons (Cert.cond rfl rfl (fun h => o_indexAddr_sl (sz := 2) (.mk Tryd.underlying27 (by kernel_rfl)) (by intro x; rfl) (.w h) (.w h) (by omega) (by simp at h; omega))) r3 trivial
      (Chain.cons (Cert.cond rfl rfl (fun h => o_fieldAddr_ref (off := 1) (.w h) (by kernel_rfl))) r2 trivial
      (Chain.cons (Cert.cond rfl rfl (fun h => o_load_ref (ag := false) (sz := 1) (.w h) (by kernel_rfl) (by kernel_rfl) (by kernel_rfl))) r2 trivial
      (Chain.cons (Cert.condS (pr2 := [(61, RS.hp (clH (.pointer (some ⟨b1, 0, none⟩)) N (if i < more.length then (stepQ N qa1 ⟨0, (Go.Gm.nth more i).key, (Go.Gm.nth more i).val⟩).1 else qa1) (if i < more.length then lastD N qa1 la1 ⟨0, (Go.Gm.nth more i).key, (Go.Gm.nth more i).val⟩ else la1)))]) rfl rfl (by rfl) (fun hb => by rw [if_pos (by simpa using hb), if_pos (by simpa using hb)]) (fun hb x hx => by rw [if_neg (by simpa using hb), if_neg (by simpa using hb)] at hx; simp only [List.mem_singleton] at hx; subst hx; simp) (fun h => o_callG1 61 (add_c b1 N qa1 la1 (Go.Gm.nth more i).key (Go.Gm.nth more i).val (by have := hW1.len; omega)) Tryd.func12 rfl (by kernel_rfl) (Args.three (.w h) (.w h) (.w h)))) r4 r1
      (Chain.cons (Cert.cond rfl rfl (fun h => o_eql (.w h) (.ci (by kernel_rfl)))) r2 trivial
      (cF rfl (o_and2 .t .t) r2 trivial
      Chain.nil)))))))))))))))))))
      (by kernel_rfl) (by rw [hB]; kernel_rfl) ?_
    clear hS; intro a w F hS
    obtain ⟨F, hS⟩ := hS.nm [95, 10, 9, 8, 7, 6, 2, 1, 0] [62, 61, 50, 9, 0] rfl rfl
    try dsimp only [List.map, xD, xE, xT, xU, ldSF, rPair, rInt] at hS
    try simp only [Int.toNat_natCast] at hS
    obtain ⟨qa2, hqa2⟩ : ∃ z, z = (if i < more.length then (stepQ N qa1 ⟨0, (Go.Gm.nth more i).key, (Go.Gm.nth more i).val⟩).1 else qa1) := ⟨_, rfl⟩
    obtain ⟨la2, hla2⟩ : ∃ z, z = (if i < more.length then lastD N qa1 la1 ⟨0, (Go.Gm.nth more i).key, (Go.Gm.nth more i).val⟩ else la1) := ⟨_, rfl⟩
    rw [← hqa2, ← hla2] at hS
    refine then_n ?_
    refine cond_b hS rfl (fun hc5 => ?_) (fun hc5 => ?_)
    ·skip
     have hb2 := hc5
     rw [Bool.and_eq_true] at hb2
     have hil2 : i < more.length := by simpa using hb2.1
     have hok2 : okP N (Go.Gm.nth more i) = true := add_zero (q := qa1) (by simpa using hb2.2)
     have hW2 : WayA N qa2 ((l.take (i + 1)).filter (okP N)) (ad ++ [(Go.Gm.nth more i)]) (2 * (i + 1)) := by rw [hqa2, if_pos hil2, add_ok hok2]; exact (hW1.right hok2).more (by omega)
     have hadok : ad ++ [(Go.Gm.nth more i)] = ((more.take (i + 1)).filter (okP N)) := by rw [fil_next hil2, if_pos hok2, had]
     refine region_q hS
       (cF rfl (oM .t) r1 trivial
       (cF rfl (oM .t) r1 trivial
       (cF rfl (oM .t) r1 trivial
       (cF rfl (o_indexAddr_sl (sz := 2) (.mk Tryd.underlying27 (by kernel_rfl)) (by intro x; rfl) .t .t (by omega) (by omega)) r2 trivial
       (cF rfl (oR true 2 .t) r1 trivial
       (cF rfl (o_buildSliceE (sz := 2) (zs := [.int .i64 0, .int .i64 0]) (r := [(0, .tmp 100)]) (l := [_, _]) Tryd.underlying27 (by kernel_rfl) (by kernel_rfl) (by kernel_rfl) (by kernel_rfl) rfl rfl (.agg rfl .t (by kernel_rfl) (by kernel_rfl) .nil) rfl) r1 trivial
       (cF rfl (o_append (sz := 2) (bs := 16) 50 (.mk' Tryd.underlying27 (by kernel_rfl) (by kernel_rfl)) (by intro x; rfl) .is (.arr (l' := [(Go.Gm.nth more i)]) .t) (by simp only [List.length_append, List.length_cons, List.length_nil]; omega) (by decide)) ⟨rfl, rfl, trivial⟩ ⟨rfl, trivial⟩
       (cF rfl (oN .t) r1 trivial
       Chain.nil))))))))
       hB ?_
     clear hS; intro a w F hS
     replace hS := hS.sub
     obtain ⟨F, hS⟩ := hS.nm [10, 9, 8, 7, 6, 2, 1, 0] [62, 61, 50, 9, 0] rfl rfl
     try dsimp only [RS.sub, SF.sub, CF.sub, csub, Anc.sub, List.map, stCells, xL, xM, Nat.reduceAdd, xD, xE, xT, xU, xC, xN, zCF, ldSF, rPair, rInt] at hS
     generalize Act.tau a 102 = v102 at hS
     try simp only [Int.toNat_natCast] at hS
     refine block_n (then_n ?_)
     refine region_q hS
       (cF rfl (oM .t) r1 trivial
       (cF rfl (o_add .t (.ci (by kernel_rfl))) r1 trivial
       (cF rfl (oN .t) r1 trivial
       Chain.nil)))
       hB ?_
     clear hS; intro a w F hS
     obtain ⟨F, hS⟩ := hS.nm [10, 9, 8, 7, 6, 2, 1, 0] [62, 61, 50, 9, 0] rfl rfl
     try dsimp only [rPair, rInt] at hS
     refine then_n ?_
     replace hS := hS.ent (i := 10) (s' := .pv (.int .i64 ((i + 1 : Nat) : Int))) rfl (.int (wrap_succ (by omega)))
     obtain ⟨F, hS⟩ := hS.nm [8, 7, 6, 2, 1, 0, 9, 10] [62, 9, 0, 50, 61] rfl rfl
     exact ⟨((i + 1), (qa2), (la2), _, _), F, ⟨hW2, hadok, by omega⟩, hS, (by show 60 - (i + 1) < 60 - i; omega)⟩
    have hb2 := hc5
    rw [Bool.and_eq_false_iff] at hb2
    have hadok : ad = ((more.take (i + 1)).filter (okP N)) := by
      by_cases hil2 : i < more.length
      · rw [fil_next hil2, if_neg, had, List.append_nil]
        rcases hb2 with hb2 | hb2
        · exact absurd hil2 (by simpa using hb2)
        · exact add_one (q := qa1) (by simpa using hb2)
      · rw [fil_over hil2, had]
    have hW2 : WayA N qa2 ((l.take (i + 1)).filter (okP N)) ad (2 * (i + 1)) := by
      by_cases hil2 : i < more.length
      · rw [hqa2, if_pos hil2, add_no]
        · exact hW1.more (by omega)
        · rcases hb2 with hb2 | hb2
          · exact absurd hil2 (by simpa using hb2)
          · exact add_one (q := qa1) (by simpa using hb2)
      · rw [hqa2, if_neg hil2]; exact hW1.more (by omega)
    refine wp_skip (block_n (then_n ?_))
    refine region_q hS
      (cF rfl (oM .t) r1 trivial
      (cF rfl (o_add .t (.ci (by kernel_rfl))) r1 trivial
      (cF rfl (oN .t) r1 trivial
      Chain.nil)))
      hB ?_
    clear hS; intro a w F hS
    obtain ⟨F, hS⟩ := hS.nm [10, 9, 8, 7, 6, 2, 1, 0] [62, 61, 50, 9, 0] rfl rfl
    try dsimp only [rPair, rInt] at hS
    refine then_n ?_
    replace hS := hS.ent (i := 10) (s' := .pv (.int .i64 ((i + 1 : Nat) : Int))) rfl (.int (wrap_succ (by omega)))
    obtain ⟨F, hS⟩ := hS.nm [8, 7, 6, 2, 1, 0, 9, 10] [62, 9, 0, 50, 61] rfl rfl
    exact ⟨((i + 1), (qa2), (la2), _, _), F, ⟨hW2, hadok, by omega⟩, hS, (by show 60 - (i + 1) < 60 - i; omega)⟩
   have hil1 : ¬ i < l.length := by simp at hc4; omega
   obtain ⟨qa1, hqa1⟩ : ∃ z, z = qa := ⟨_, rfl⟩
   obtain ⟨la1, hla1⟩ : ∃ z, z = la := ⟨_, rfl⟩
   rw [← hqa1, ← hla1] at hS
   have hW1 : WayA N qa1 ((l.take (i + 1)).filter (okP N)) ad (2 * i + 1) := by rw [hqa1, fil_over hil1]; exact hW.more (by omega)
   refine wp_skip (then_n (wp_seq ?_))
   refine region_any (by kernel_rfl) hS (by kernel_rfl)
     (cF rfl (oM .t) r1 trivial
     (cF rfl (oM .t) r1 trivial
     (cF rfl (o_len_sl Tryd.underlying27 .t) r1 trivial
     (cF rfl (o_lss .t .t) r2 trivial
     (cF rfl (oM .t) r1 trivial
     (Chain.cons (Cert.cond rfl rfl (fun h => o_move .t (by rfl))) r2 trivial
     (Chain.cons (Cert.cond rfl rfl (fun h => o_move .t (by rfl))) r2 trivial
     (Chain.cons (Cert.cond rfl rfl (fun h => o_move .t (by rfl))) r2 trivial
     (Chain.cons (Cert.cond rfl rfl (fun h => o_indexAddr_sl (sz := 2) (.mk Tryd.underlying27 (by kernel_rfl)) (by intro x; rfl) (.w h) (.w h) (by omega) (by simp at h; omega))) r3 trivial
     (Chain.cons (Cert.cond rfl rfl (fun h => o_fieldAddr_ref (off := 0) (.w h) (by kernel_rfl))) r2 trivial
     (Chain.cons (Cert.cond rfl rfl (fun h => o_load_ref (ag := false) (sz := 1) (.w h) (by kernel_rfl) (by kernel_rfl) (by kernel_rfl))) r2 trivial
     (Chain.cons (Cert.cond rfl rfl (fun h => o_move .t (by rfl))) r2 trivial
     (Chain.cons (Cert.cond rfl rfl (fun h => o_move .t (by rfl))) r2 trivial
     (Chain.cons (Cert.cond rfl rfl (fun h => o_indexAddr_sl (sz := 2) (.mk Tryd.underlying27 (by kernel_rfl)) (by intro x; rfl) (.w h) (.w h) (by omega) (by simp at h; omega))) r3 trivial
     (Chain.cons (Cert.cond rfl rfl (fun h => o_fieldAddr_ref (off := 1) (.w h) (by kernel_rfl))) r2 trivial
     (Chain.cons (Cert.cond rfl rfl (fun h => o_load_ref (ag := false) (sz := 1) (.w h) (by kernel_rfl) (by kernel_rfl) (by kernel_rfl))) r2 trivial
     (Chain.cons (Cert.condS (pr2 := [(61, RS.hp (clH (.pointer (some ⟨b1, 0, none⟩)) N (if i < more.length then (stepQ N qa1 ⟨0, (Go.Gm.nth more i).key, (Go.Gm.nth more i).val⟩).1 else qa1) (if i < more.length then lastD N qa1 la1 ⟨0, (Go.Gm.nth more i).key, (Go.Gm.nth more i).val⟩ else la1)))]) rfl rfl (by rfl) (fun hb => by rw [if_pos (by simpa using hb), if_pos (by simpa using hb)]) (fun hb x hx => by rw [if_neg (by simpa using hb), if_neg (by simpa using hb)] at hx; simp only [List.mem_singleton] at hx; subst hx; simp) (fun h => o_callG1 61 (add_c b1 N qa1 la1 (Go.Gm.nth more i).key (Go.Gm.nth more i).val (by have := hW1.len; omega)) Tryd.func12 rfl (by kernel_rfl) (Args.three (.w h) (.w h) (.w h)))) r4 r1
     (Chain.cons (Cert.cond rfl rfl (fun h => o_eql (.w h) (.ci (by kernel_rfl)))) r2 trivial
     (cF rfl (o_and2 .t .t) r2 trivial
     Chain.nil)))))))))))))))))))
     (by kernel_rfl) (by rw [hB]; kernel_rfl) ?_
   clear hS; intro a w F hS
   obtain ⟨F, hS⟩ := hS.nm [95, 10, 9, 8, 7, 6, 2, 1, 0] [62, 61, 50, 9, 0] rfl rfl
   try dsimp only [List.map, xD, xE, xT, xU, ldSF, rPair, rInt] at hS
   try simp only [Int.toNat_natCast] at hS
   obtain ⟨qa2, hqa2⟩ : ∃ z, z = (if i < more.length then (stepQ N qa1 ⟨0, (Go.Gm.nth more i).key, (Go.Gm.nth more i).val⟩).1 else qa1) := ⟨_, rfl⟩
   obtain ⟨la2, hla2⟩ : ∃ z, z = (if i < more.length then lastD N qa1 la1 ⟨0, (Go.Gm.nth more i).key, (Go.Gm.nth more i).val⟩ else la1) := ⟨_, rfl⟩
   rw [← hqa2, ← hla2] at hS
   refine then_n ?_
   refine cond_b hS rfl (fun hc6 => ?_) (fun hc6 => ?_)
   ·skip
    have hb2 := hc6
    rw [Bool.and_eq_true] at hb2
    have hil2 : i < more.length := by simpa using hb2.1
    have hok2 : okP N (Go.Gm.nth more i) = true := add_zero (q := qa1) (by simpa using hb2.2)
    have hW2 : WayA N qa2 ((l.take (i + 1)).filter (okP N)) (ad ++ [(Go.Gm.nth more i)]) (2 * (i + 1)) := by rw [hqa2, if_pos hil2, add_ok hok2]; exact (hW1.right hok2).more (by omega)
    have hadok : ad ++ [(Go.Gm.nth more i)] = ((more.take (i + 1)).filter (okP N)) := by rw [fil_next hil2, if_pos hok2, had]
    refine region_q hS
      (cF rfl (oM .t) r1 trivial
      (cF rfl (oM .t) r1 trivial
      (cF rfl (oM .t) r1 trivial
      (cF rfl (o_indexAddr_sl (sz := 2) (.mk Tryd.underlying27 (by kernel_rfl)) (by intro x; rfl) .t .t (by omega) (by omega)) r2 trivial
      (cF rfl (oR true 2 .t) r1 trivial
      (cF rfl (o_buildSliceE (sz := 2) (zs := [.int .i64 0, .int .i64 0]) (r := [(0, .tmp 100)]) (l := [_, _]) Tryd.underlying27 (by kernel_rfl) (by kernel_rfl) (by kernel_rfl) (by kernel_rfl) rfl rfl (.agg rfl .t (by kernel_rfl) (by kernel_rfl) .nil) rfl) r1 trivial
      (cF rfl (o_append (sz := 2) (bs := 16) 50 (.mk' Tryd.underlying27 (by kernel_rfl) (by kernel_rfl)) (by intro x; rfl) .is (.arr (l' := [(Go.Gm.nth more i)]) .t) (by simp only [List.length_append, List.length_cons, List.length_nil]; omega) (by decide)) ⟨rfl, rfl, trivial⟩ ⟨rfl, trivial⟩
      (cF rfl (oN .t) r1 trivial
      Chain.nil))))))))
      hB ?_
    clear hS; intro a w F hS
    replace hS := hS.sub
    obtain ⟨F, hS⟩ := hS.nm [10, 9, 8, 7, 6, 2, 1, 0] [62, 61, 50, 9, 0] rfl rfl
    try dsimp only [RS.sub, SF.sub, CF.sub, csub, Anc.sub, List.map, stCells, xL, xM, Nat.reduceAdd, xD, xE, xT, xU, xC, xN, zCF, ldSF, rPair, rInt] at hS
    generalize Act.tau a 102 = v102 at hS
    try simp only [Int.toNat_natCast] at hS
    refine block_n (then_n ?_)
    refine region_q hS
      (cF rfl (oM .t) r1 trivial
      (cF rfl (o_add .t (.ci (by kernel_rfl))) r1 trivial
      (cF rfl (oN .t) r1 trivial
      Chain.nil)))
      hB ?_
    clear hS; intro a w F hS
    obtain ⟨F, hS⟩ := hS.nm [10, 9, 8, 7, 6, 2, 1, 0] [62, 61, 50, 9, 0] rfl rfl
    try dsimp only [rPair, rInt] at hS
    refine then_n ?_
    replace hS := hS.ent (i := 10) (s' := .pv (.int .i64 ((i + 1 : Nat) : Int))) rfl (.int (wrap_succ (by omega)))
    obtain ⟨F, hS⟩ := hS.nm [8, 7, 6, 2, 1, 0, 9, 10] [62, 9, 0, 50, 61] rfl rfl
    exact ⟨((i + 1), (qa2), (la2), _, _), F, ⟨hW2, hadok, by omega⟩, hS, (by show 60 - (i + 1) < 60 - i; omega)⟩
   have hb2 := hc6
   rw [Bool.and_eq_false_iff] at hb2
   have hadok : ad = ((more.take (i + 1)).filter (okP N)) := by
     by_cases hil2 : i < more.length
     · rw [fil_next hil2, if_neg, had, List.append_nil]
       rcases hb2 with hb2 | hb2
       · exact absurd hil2 (by simpa using hb2)
       · exact add_one (q := qa1) (by simpa using hb2)
     · rw [fil_over hil2, had]
   have hW2 : WayA N qa2 ((l.take (i + 1)).filter (okP N)) ad (2 * (i + 1)) := by
     by_cases hil2 : i < more.length
     · rw [hqa2, if_pos hil2, add_no]
       · exact hW1.more (by omega)
       · rcases hb2 with hb2 | hb2
         · exact absurd hil2 (by simpa using hb2)
         · exact add_one (q := qa1) (by simpa using hb2)
     · rw [hqa2, if_neg hil2]; exact hW1.more (by omega)
   refine wp_skip (block_n (then_n ?_))
   refine region_q hS
     (cF rfl (oM .t) r1 trivial
     (cF rfl (o_add .t (.ci (by kernel_rfl))) r1 trivial
     (cF rfl (oN .t) r1 trivial
     Chain.nil)))
     hB ?_
   clear hS; intro a w F hS
   obtain ⟨F, hS⟩ := hS.nm [10, 9, 8, 7, 6, 2, 1, 0] [62, 61, 50, 9, 0] rfl rfl
   try dsimp only [rPair, rInt] at hS
   refine then_n ?_
   replace hS := hS.ent (i := 10) (s' := .pv (.int .i64 ((i + 1 : Nat) : Int))) rfl (.int (wrap_succ (by omega)))
   obtain ⟨F, hS⟩ := hS.nm [8, 7, 6, 2, 1, 0, 9, 10] [62, 9, 0, 50, 61] rfl rfl
   exact ⟨((i + 1), (qa2), (la2), _, _), F, ⟨hW2, hadok, by omega⟩, hS, (by show 60 - (i + 1) < 60 - i; omega)⟩
  have hge : l.length ≤ i ∧ more.length ≤ i := by simp at hc3; omega
  have hWE : WayA N qa (l.filter (okP N)) (ad.drop 0) 120 := by have h9 := hW; rw [List.take_of_length_le hge.1] at h9; exact h9.more (by omega)
  have hadl2 : ad.length ≤ 60 := by omega
  refine wp_exit (then_x (then_x (block_x (then_n (wp_seq (wp_seq ?_))))))
  refine region_q hS
    (cF rfl (oM .t) r1 trivial
    (cF rfl (o_len_row 50 Tryd.underlying27 .is) r1 r1
    (cF rfl (oM (.ci (by kernel_rfl))) trivial trivial
    Chain.nil)))
    hB ?_
  clear hS; intro a w F hS
  obtain ⟨F, hS⟩ := hS.nm [105, 104, 103, 8, 7, 6, 1, 0] [62, 61, 50, 9, 0] rfl rfl
  try dsimp only [rPair, rInt] at hS
  refine then_n (wp_block ?_)
  refine loop_keep (σ := (Nat) × (List PairD) × (List Int)) [0, 1, 6, 7, 8, 103, 104] [0, 9, 50, 62] (fun s => [(105, .pv (.int .i64 (s.1 : Int)))]) (fun s => [(61, RS.hp (clH (.pointer (some ⟨b1, 0, none⟩)) N s.2.1 s.2.2))]) (fun s => s.1 ≤ ad.length ∧ (WayA N s.2.1 (l.filter (okP N)) (ad.drop s.1) 120)) (fun s => ad.length - s.1) ((0), (qa), (la)) hS ⟨rfl, rfl, rfl, rfl, rfl, rfl, rfl, rfl, trivial⟩ ⟨rfl, rfl, rfl, rfl, rfl, trivial⟩ ⟨Nat.zero_le _, hWE⟩ ?_
  clear hS; intro s a w F hC hS
  obtain ⟨j, qb, lb⟩ := s
  try dsimp only at hC
  obtain ⟨F, hS⟩ := hS.nm [105, 104, 103, 8, 7, 6, 1, 0] [62, 61, 50, 9, 0] rfl rfl
  try dsimp only at hS
  obtain ⟨hi, hq⟩ := hC
  refine wp_seq ?_
  refine region_q hS
    (cF rfl (o_lss .t .t) r2 trivial
    Chain.nil)
    hB ?_
  clear hS; intro a w F hS
  obtain ⟨F, hS⟩ := hS.nm [106, 105, 104, 103, 8, 7, 6, 1, 0] [62, 61, 50, 9, 0] rfl rfl
  try dsimp only [rPair, rInt] at hS
  refine then_n (wp_seq ?_)
  refine cond_b hS rfl (fun hc7 => ?_) (fun hc7 => ?_)
  ·skip
   have hil : j < ad.length := by simp at hc7; omega
   have hWD := WayA.drop (p := Go.Gm.nth ad j) (B := ad.drop (j + 1)) (by rw [← drop_nth hil]; exact hq)
   refine wp_skip (then_n (wp_seq (wp_block (wp_seq ?_))))
   refine region_q hS
     (cF rfl (o_indexAddr_row (sz := 2) 50 (.mk Tryd.underlying27 (by kernel_rfl)) .is .t (by omega) (by omega) (by rfl)) r2 r1
     (cF rfl (o_load_row0 (ag := true) (sz' := 2) (sz := 2) 50 .t (by intro x; rfl) (by rw [Int.toNat_natCast]; omega) (by kernel_rfl) (by kernel_rfl) (by kernel_rfl)) r1 r1
     (cF rfl (oH [.int .i64 0, .int .i64 0] 101) trivial trivial
     (cF rfl (oA 2 101 .same .t) r2 r1
     Chain.nil))))
     hB ?_
   clear hS; intro a w F hS
   replace hS := hS.sub
   obtain ⟨F, hS⟩ := hS.nm [105, 104, 103, 12, 8, 7, 6, 1, 0] [101, 62, 61, 50, 9, 0] rfl rfl
   try dsimp only [RS.sub, SF.sub, CF.sub, csub, Anc.sub, List.map, stCells, xL, xM, Nat.reduceAdd, xD, xE, xT, xU, xC, xN, zCF, ldSF, rPair, rInt] at hS
   generalize Act.tau a 12 = v12 at hS
   try simp only [Int.toNat_natCast] at hS
   refine then_n (wp_seq ?_)
   refine region_q hS
     (cF rfl (oM .t) r1 trivial
     (cF rfl (oF 0 101 .is) r1 r1
     (cF rfl (oL false 1 101 .adr) r1 r1
     (cF rfl (oF 1 101 .is) r1 r1
     (cF rfl (oL false 1 101 .adr) r1 r1
     (cF rfl (o_callG1 61 (drop_c b1 N qb lb (Go.Gm.nth ad j).key (Go.Gm.nth ad j).val) Tryd.func13 rfl (by kernel_rfl) (Args.three .t .t .t)) r3 r1
     (cF rfl (o_neq .t (.ci (by kernel_rfl))) r1 trivial
     Chain.nil)))))))
     hB ?_
   clear hS; intro a w F hS
   obtain ⟨F, hS⟩ := hS.nm [115, 105, 104, 103, 8, 7, 6, 1, 0] [62, 61, 50, 9, 0] rfl rfl
   try dsimp only [List.map, xD, xE, xT, xU, ldSF, rPair, rInt] at hS
   rw [drop_ok hq.inn hWD.2] at hS
   obtain ⟨lb2, hlb2⟩ : ∃ z, z = lastD N qb lb ⟨1, (Go.Gm.nth ad j).key, (Go.Gm.nth ad j).val⟩ := ⟨_, rfl⟩
   rw [← hlb2] at hS
   dsimp only at hS
   refine then_n ?_
   refine cond_b hS rfl (fun hc8 => ?_) (fun hc8 => ?_)
   ·skip
    simp at hc8
   refine wp_skip (block_n (then_n ?_))
   refine region_q hS
     (cF rfl (o_add .t (.ci (by kernel_rfl))) r1 trivial
     (cF rfl (oM .t) r1 trivial
     Chain.nil))
     hB ?_
   clear hS; intro a w F hS
   obtain ⟨F, hS⟩ := hS.nm [105, 104, 103, 8, 7, 6, 1, 0] [62, 61, 50, 9, 0] rfl rfl
   try dsimp only [rPair, rInt] at hS
   refine then_n ?_
   replace hS := hS.ent (i := 105) (s' := .pv (.int .i64 ((j + 1 : Nat) : Int))) rfl (.int (wrap_succ (by omega)))
   obtain ⟨F, hS⟩ := hS.nm [104, 103, 8, 7, 6, 1, 0, 105] [62, 50, 9, 0, 61] rfl rfl
   exact ⟨((j + 1), ((qb.erase (Go.Gm.nth ad j))), (lb2)), F, ⟨by omega, hWD.1⟩, hS, by omega⟩
  have hil : j = ad.length := by simp at hc7; omega
  have hWF : WayA N qb (l.filter (okP N)) [] 120 := by have h9 := hq; rwa [hil, List.drop_length] at h9
  refine wp_exit (then_x (then_x (block_x (then_n (wp_seq (wp_seq ?_))))))
  refine region_q hS
    (cF rfl (oM .t) r1 trivial
    (cF rfl (o_len_sl Tryd.underlying27 .t) r1 trivial
    (cF rfl (oM (.ci (by kernel_rfl))) trivial trivial
    Chain.nil)))
    hB ?_
  clear hS; intro a w F hS
  obtain ⟨F, hS⟩ := hS.nm [119, 118, 8, 7, 6, 1, 0] [62, 61, 50, 9, 0] rfl rfl
  try dsimp only [rPair, rInt] at hS
  refine then_n (wp_block ?_)
  refine loop_keep (σ := (Nat) × (List PairD) × (List Int)) [0, 1, 6, 7, 8, 118] [0, 9, 50, 61] (fun s => [(119, .pv (.int .i64 (s.1 : Int)))]) (fun s => [(62, RS.hp (clH (.pointer (some ⟨b2, 0, none⟩)) N s.2.1 s.2.2))]) (fun s => s.1 ≤ l.length ∧ (s.2.1 = ((l.reverse.take s.1).filter (okP N)))) (fun s => l.length - s.1) ((0), ([]), ([])) hS ⟨rfl, rfl, rfl, rfl, rfl, rfl, rfl, trivial⟩ ⟨rfl, rfl, rfl, rfl, rfl, trivial⟩ ⟨Nat.zero_le _, rfl⟩ ?_
  clear hS; intro s a w F hC hS
  obtain ⟨i, qc, lc⟩ := s
  try dsimp only at hC
  obtain ⟨F, hS⟩ := hS.nm [119, 118, 8, 7, 6, 1, 0] [62, 61, 50, 9, 0] rfl rfl
  try dsimp only at hS
  obtain ⟨hi, hq⟩ := hC
  have hqcl : qc.length ≤ i := by rw [hq]; exact Nat.le_trans (List.length_filter_le _ _) (by rw [List.length_take]; omega)
  refine wp_seq ?_
  refine region_q hS
    (cF rfl (o_lss .t .t) r2 trivial
    Chain.nil)
    hB ?_
  clear hS; intro a w F hS
  obtain ⟨F, hS⟩ := hS.nm [120, 119, 118, 8, 7, 6, 1, 0] [62, 61, 50, 9, 0] rfl rfl
  try dsimp only [rPair, rInt] at hS
  refine then_n (wp_seq ?_)
  refine cond_b hS rfl (fun hc9 => ?_) (fun hc9 => ?_)
  ·skip
   have hil : i < l.length := by simp at hc9; omega
   have hwk : IntKind.wrap .i64 (IntKind.wrap .i64 ((l.length : Int) - 1) - (i : Int)) = ((l.length - 1 - i : Nat) : Int) := by rw [wrap_i64 (x := (l.length : Int) - 1) (by omega), wrap_i64 (by omega)]; omega
   refine wp_skip (then_n (wp_seq (wp_block (wp_seq ?_))))
   refine region_q hS
     (cF rfl (oM .t) r1 trivial
     (cF rfl (oN .t) r1 trivial
     Chain.nil))
     hB ?_
   clear hS; intro a w F hS
   obtain ⟨F, hS⟩ := hS.nm [119, 118, 13, 8, 7, 6, 1, 0] [62, 61, 50, 9, 0] rfl rfl
   try dsimp only [rPair, rInt] at hS
   refine then_n (wp_seq ?_)
   refine region_q hS
     (cF rfl (oM .t) r1 trivial
     (cF rfl (oM .t) r1 trivial
     (cF rfl (o_len_sl Tryd.underlying27 .t) r1 trivial
     (cF rfl (o_sub .t (.ci (by kernel_rfl))) r1 trivial
     (cF rfl (oM .t) r1 trivial
     (cF rfl (o_sub .t .t) r2 trivial
     (cF rfl (o_indexAddr_sl (sz := 2) (.mk Tryd.underlying27 (by kernel_rfl)) (by intro x; rfl) .t .t (by rw [hwk]; omega) (by rw [hwk]; omega)) r2 trivial
     (cF rfl (oR true 2 .t) r1 trivial
     (cF rfl (oH [.int .i64 0, .int .i64 0] 102) trivial trivial
     (cF rfl (oA 2 102 .same .t) r2 r1
     Chain.nil))))))))))
     hB ?_
   clear hS; intro a w F hS
   replace hS := hS.sub
   obtain ⟨F, hS⟩ := hS.nm [119, 118, 14, 8, 7, 6, 1, 0] [102, 62, 61, 50, 9, 0] rfl rfl
   try dsimp only [RS.sub, SF.sub, CF.sub, csub, Anc.sub, List.map, stCells, xL, xM, Nat.reduceAdd, xD, xE, xT, xU, xC, xN, zCF, ldSF, rPair, rInt] at hS
   generalize Act.tau a 14 = v14 at hS
   try simp only [Int.toNat_natCast] at hS
   rw [hwk] at hS
   try simp only [Int.toNat_natCast] at hS
   refine then_n ?_
   refine region_q hS
     (cF rfl (oM .t) r1 trivial
     (cF rfl (oF 0 102 .is) r1 r1
     (cF rfl (oL false 1 102 .adr) r1 r1
     (cF rfl (oF 1 102 .is) r1 r1
     (cF rfl (oL false 1 102 .adr) r1 r1
     (cF rfl (o_callG1 62 (add_c b2 N qc lc (Go.Gm.nth l (l.length - 1 - i)).key (Go.Gm.nth l (l.length - 1 - i)).val (by omega)) Tryd.func12 rfl (by kernel_rfl) (Args.three .t .t .t)) r3 r1
     Chain.nil))))))
     hB ?_
   clear hS; intro a w F hS
   obtain ⟨F, hS⟩ := hS.nm [119, 118, 8, 7, 6, 1, 0] [62, 61, 50, 9, 0] rfl rfl
   try dsimp only [List.map, xD, xE, xT, xU, ldSF, rPair, rInt] at hS
   obtain ⟨qc2, hqc2⟩ : ∃ z, z = (stepQ N qc ⟨0, (Go.Gm.nth l (l.length - 1 - i)).key, (Go.Gm.nth l (l.length - 1 - i)).val⟩).1 := ⟨_, rfl⟩
   obtain ⟨lc2, hlc2⟩ : ∃ z, z = lastD N qc lc ⟨0, (Go.Gm.nth l (l.length - 1 - i)).key, (Go.Gm.nth l (l.length - 1 - i)).val⟩ := ⟨_, rfl⟩
   rw [← hqc2, ← hlc2] at hS
   have hqc2 : qc2 = ((l.reverse.take (i + 1)).filter (okP N)) := by
     rw [fil_next (by rw [List.length_reverse]; exact hil), ← nth_rev hil, ← hq, hqc2]
     by_cases hok : okP N (Go.Gm.nth l (l.length - 1 - i)) = true
     · rw [add_ok hok, if_pos hok]
     · rw [add_no hok, if_neg hok, List.append_nil]
   refine block_n (then_n ?_)
   refine region_q hS
     (cF rfl (o_add .t (.ci (by kernel_rfl))) r1 trivial
     (cF rfl (oM .t) r1 trivial
     Chain.nil))
     hB ?_
   clear hS; intro a w F hS
   obtain ⟨F, hS⟩ := hS.nm [119, 118, 8, 7, 6, 1, 0] [62, 61, 50, 9, 0] rfl rfl
   try dsimp only [rPair, rInt] at hS
   refine then_n ?_
   replace hS := hS.ent (i := 119) (s' := .pv (.int .i64 ((i + 1 : Nat) : Int))) rfl (.int (wrap_succ (by omega)))
   obtain ⟨F, hS⟩ := hS.nm [118, 8, 7, 6, 1, 0, 119] [61, 50, 9, 0, 62] rfl rfl
   exact ⟨((i + 1), (qc2), (lc2)), F, ⟨by omega, hqc2⟩, hS, by omega⟩
  have hil : i = l.length := by simp at hc9; omega
  have hcF : qc = l.reverse.filter (okP N) := by rw [hq, hil, List.take_of_length_le (by rw [List.length_reverse]; exact Nat.le_refl _)]
  refine wp_exit (then_x (then_x (block_x (then_n (wp_seq (wp_seq ?_))))))
  refine region_q hS
    (cF rfl (oN (.ci (by kernel_rfl))) trivial trivial
    Chain.nil)
    hB ?_
  clear hS; intro a w F hS
  obtain ⟨F, hS⟩ := hS.nm [15, 8, 7, 6, 0] [62, 61, 50, 9, 0] rfl rfl
  try dsimp only [rPair, rInt] at hS
  refine then_n (wp_block ?_)
  refine loop_keep (σ := Nat) [0, 6, 7, 8] [0, 9, 50, 61, 62] (fun s => [(15, .pv (.int .i64 (s : Int)))]) (fun s => []) (fun s => s ≤ N) (fun s => N - s) (0) hS ⟨rfl, rfl, rfl, rfl, rfl, trivial⟩ ⟨rfl, rfl, rfl, rfl, rfl, trivial⟩ (Nat.zero_le _) ?_
  clear hS; intro u a w F hC hS
  try dsimp only at hC
  obtain ⟨F, hS⟩ := hS.nm [15, 8, 7, 6, 0] [62, 61, 50, 9, 0] rfl rfl
  try dsimp only at hS
  have hu : u ≤ N := hC
  refine wp_seq (wp_seq ?_)
  refine region_q hS
    (cF rfl (oM .t) r1 trivial
    (cF rfl (oM .t) r1 trivial
    (cF rfl (o_lss .t .t) r2 trivial
    Chain.nil)))
    hB ?_
  clear hS; intro a w F hS
  obtain ⟨F, hS⟩ := hS.nm [139, 15, 8, 7, 6, 0] [62, 61, 50, 9, 0] rfl rfl
  try dsimp only [rPair, rInt] at hS
  refine then_n ?_
  refine cond_b hS rfl (fun hc10 => ?_) (fun hc10 => ?_)
  ·skip
   have huN : u < N := by simp at hc10; omega
   have hru : rowB N qb (u : Int) = (reachQ qb (u : Int)) := rowB_in ⟨by omega, by omega⟩
   have hru2 : rowB N qc (u : Int) = (reachQ qb (u : Int)) := by rw [rowB_in ⟨by omega, by omega⟩]; exact (way_reach hWF hcF _).symm
   have hrul := Nat.le_trans (reachQ_len qb (u : Int)) hWF.len
   refine wp_skip (then_n (wp_seq (wp_block (wp_seq ?_))))
   refine region_q hS
     (cF rfl (oM .t) r1 trivial
     (cF rfl (oM .t) r1 trivial
     (cF rfl (o_callG1 61 (crow_c b1 N qb lb (u : Int)) Tryd.func20 rfl (by kernel_rfl) (Args.two .t .t)) r2 r1
     (cF rfl (oN .t) r1 trivial
     Chain.nil))))
     hB ?_
   clear hS; intro a w F hS
   obtain ⟨F, hS⟩ := hS.nm [16, 15, 8, 7, 6, 0] [62, 61, 50, 9, 0] rfl rfl
   try dsimp only [rPair, rInt] at hS
   rw [hru] at hS
   refine then_n (wp_seq (wp_seq ?_))
   refine region_q hS
     (cF rfl (oM .t) r1 trivial
     (cF rfl (oM .t) r1 trivial
     (cF rfl (oM .t) r1 trivial
     (cF rfl (o_callG1 62 (crow_c b2 N qc lc (u : Int)) Tryd.func20 rfl (by kernel_rfl) (Args.two .t .t)) r2 r1
     (cF rfl (oP (sameInts_c (reachQ qb (u : Int)) (rowB N qc (u : Int))) Tryd.func18 (Args.two .t .t)) r2 trivial
     (cF rfl (o_not .t) r1 trivial
     Chain.nil))))))
     hB ?_
   clear hS; intro a w F hS
   obtain ⟨F, hS⟩ := hS.nm [150, 16, 15, 8, 7, 6, 0] [62, 61, 50, 9, 0] rfl rfl
   try dsimp only [rPair, rInt] at hS
   refine then_n ?_
   refine cond_b hS rfl (fun hc11 => ?_) (fun hc11 => ?_)
   ·skip
    exact absurd hru2.symm (by simpa using hc11)
   refine wp_skip (then_n (wp_seq ?_))
   refine region_q hS
     (cF rfl (oM .t) r1 trivial
     (cF rfl (o_len_sl Tryd.underlying30 .t) r1 trivial
     (cF rfl (oM (.ci (by kernel_rfl))) trivial trivial
     Chain.nil)))
     hB ?_
   clear hS; intro a w F hS
   obtain ⟨F, hS⟩ := hS.nm [153, 152, 151, 16, 15, 8, 7, 6, 0] [62, 61, 50, 9, 0] rfl rfl
   try dsimp only [rPair, rInt] at hS
   refine then_n (wp_block ?_)
   refine loop_keep (σ := (Nat)) [0, 6, 7, 8, 15, 16, 151, 152] [0, 9, 50, 61, 62] (fun s => [(153, .pv (.int .i64 (s : Int)))]) (fun s => []) (fun s => s ≤ (reachQ qb (u : Int)).length ∧ (True)) (fun s => (reachQ qb (u : Int)).length - s) (0) hS ⟨rfl, rfl, rfl, rfl, rfl, rfl, rfl, rfl, rfl, trivial⟩ ⟨rfl, rfl, rfl, rfl, rfl, trivial⟩ ⟨Nat.zero_le _, trivial⟩ ?_
   clear hS; intro k a w F hC hS
   try dsimp only at hC
   obtain ⟨F, hS⟩ := hS.nm [153, 152, 151, 16, 15, 8, 7, 6, 0] [62, 61, 50, 9, 0] rfl rfl
   try dsimp only at hS
   obtain ⟨hi, hq⟩ := hC
   refine wp_seq ?_
   refine region_q hS
     (cF rfl (o_lss .t .t) r2 trivial
     Chain.nil)
     hB ?_
   clear hS; intro a w F hS
   obtain ⟨F, hS⟩ := hS.nm [154, 153, 152, 151, 16, 15, 8, 7, 6, 0] [62, 61, 50, 9, 0] rfl rfl
   try dsimp only [rPair, rInt] at hS
   refine then_n (wp_seq ?_)
   refine cond_b hS rfl (fun hc12 => ?_) (fun hc12 => ?_)
   ·skip
    have hil : k < (reachQ qb (u : Int)).length := by simp at hc12; omega
    have hilk := hil
    have hvr := (reachQ_up hWF.inn (u : Int)).2 _ (nth_mem hil)
    have hrv : rowB N qb (Go.Gm.nth (reachQ qb (u : Int)) k) = (reachQ qb (Go.Gm.nth (reachQ qb (u : Int)) k)) := rowB_in ⟨hvr.1, hvr.2⟩
    have hrvl := Nat.le_trans (reachQ_len qb (Go.Gm.nth (reachQ qb (u : Int)) k)) hWF.len
    refine wp_skip (then_n (wp_seq (wp_block (wp_seq ?_))))
    refine region_q hS
      (cF rfl (o_indexAddr_sl (sz := 1) (.mk Tryd.underlying30 (by kernel_rfl)) (by intro x; rfl) .t .t (by omega) (by omega)) r2 trivial
      (cF rfl (oR false 1 .t) r1 trivial
      (cF rfl (oN .t) r1 trivial
      Chain.nil)))
      hB ?_
    clear hS; intro a w F hS
    obtain ⟨F, hS⟩ := hS.nm [153, 152, 151, 18, 16, 15, 8, 7, 6, 0] [62, 61, 50, 9, 0] rfl rfl
    try dsimp only [List.map, xD, xE, xT, xU, ldSF, rPair, rInt] at hS
    try simp only [Int.toNat_natCast] at hS
    refine then_n (wp_seq ?_)
    refine region_q hS
      (cF rfl (oM .t) r1 trivial
      (cF rfl (oM .t) r1 trivial
      (cF rfl (o_callG1 61 (crow_c b1 N qb lb (Go.Gm.nth (reachQ qb (u : Int)) k)) Tryd.func20 rfl (by kernel_rfl) (Args.two .t .t)) r2 r1
      (cF rfl (o_len_sl Tryd.underlying30 .t) r1 trivial
      (cF rfl (oM (.ci (by kernel_rfl))) trivial trivial
      Chain.nil)))))
      hB ?_
    clear hS; intro a w F hS
    obtain ⟨F, hS⟩ := hS.nm [161, 160, 159, 153, 152, 151, 16, 15, 8, 7, 6, 0] [62, 61, 50, 9, 0] rfl rfl
    try dsimp only [rPair, rInt] at hS
    rw [hrv] at hS
    refine then_n (wp_block ?_)
    refine loop_keep (σ := (Nat)) [0, 6, 7, 8, 15, 16, 151, 152, 153, 159, 160] [0, 9, 50, 61, 62] (fun s => [(161, .pv (.int .i64 (s : Int)))]) (fun s => []) (fun s => s ≤ (reachQ qb (Go.Gm.nth (reachQ qb (u : Int)) k)).length ∧ (True)) (fun s => (reachQ qb (Go.Gm.nth (reachQ qb (u : Int)) k)).length - s) (0) hS ⟨rfl, rfl, rfl, rfl, rfl, rfl, rfl, rfl, rfl, rfl, rfl, rfl, trivial⟩ ⟨rfl, rfl, rfl, rfl, rfl, trivial⟩ ⟨Nat.zero_le _, trivial⟩ ?_
    clear hS; intro k2 a w F hC hS
    try dsimp only at hC
    obtain ⟨F, hS⟩ := hS.nm [161, 160, 159, 153, 152, 151, 16, 15, 8, 7, 6, 0] [62, 61, 50, 9, 0] rfl rfl
    try dsimp only at hS
    obtain ⟨hi, hq⟩ := hC
    refine wp_seq ?_
    refine region_q hS
      (cF rfl (o_lss .t .t) r2 trivial
      Chain.nil)
      hB ?_
    clear hS; intro a w F hS
    obtain ⟨F, hS⟩ := hS.nm [162, 161, 160, 159, 153, 152, 151, 16, 15, 8, 7, 6, 0] [62, 61, 50, 9, 0] rfl rfl
    try dsimp only [rPair, rInt] at hS
    refine then_n (wp_seq ?_)
    refine cond_b hS rfl (fun hc13 => ?_) (fun hc13 => ?_)
    ·skip
     have hil : k2 < (reachQ qb (Go.Gm.nth (reachQ qb (u : Int)) k)).length := by simp at hc13; omega
     refine wp_skip (then_n (wp_seq (wp_block (wp_seq ?_))))
     refine region_q hS
       (cF rfl (o_indexAddr_sl (sz := 1) (.mk Tryd.underlying30 (by kernel_rfl)) (by intro x; rfl) .t .t (by omega) (by omega)) r2 trivial
       (cF rfl (oR false 1 .t) r1 trivial
       (cF rfl (oN .t) r1 trivial
       Chain.nil)))
       hB ?_
     clear hS; intro a w F hS
     obtain ⟨F, hS⟩ := hS.nm [161, 160, 159, 153, 152, 151, 20, 16, 15, 8, 7, 6, 0] [62, 61, 50, 9, 0] rfl rfl
     try dsimp only [List.map, xD, xE, xT, xU, ldSF, rPair, rInt] at hS
     try simp only [Int.toNat_natCast] at hS
     refine then_n (wp_seq ?_)
     refine region_q hS
       (cF rfl (oM .t) r1 trivial
       (cF rfl (oM .t) r1 trivial
       (cF rfl (oP (in_c (reachQ qb (u : Int)) (Go.Gm.nth (reachQ qb (Go.Gm.nth (reachQ qb (u : Int)) k)) k2) (by have := reachQ_len qb (u : Int); have := hWF.len; omega)) Tryd.func22 (Args.two .t .t)) r2 trivial
       (cF rfl (o_not .t) r1 trivial
       Chain.nil))))
       hB ?_
     clear hS; intro a w F hS
     obtain ⟨F, hS⟩ := hS.nm [168, 161, 160, 159, 153, 152, 151, 16, 15, 8, 7, 6, 0] [62, 61, 50, 9, 0] rfl rfl
     try dsimp only [rPair, rInt] at hS
     refine then_n ?_
     refine cond_b hS rfl (fun hc14 => ?_) (fun hc14 => ?_)
     ·skip
      exfalso
      have hb3 : ¬ Go.Gm.nth (reachQ qb (Go.Gm.nth (reachQ qb (u : Int)) k)) k2 ∈ (reachQ qb (u : Int)) := by simpa using hc14
      exact hb3 (reach_trans (nth_mem hilk) (nth_mem hil))
     refine wp_skip (block_n (then_n ?_))
     refine region_q hS
       (cF rfl (o_add .t (.ci (by kernel_rfl))) r1 trivial
       (cF rfl (oM .t) r1 trivial
       Chain.nil))
       hB ?_
     clear hS; intro a w F hS
     obtain ⟨F, hS⟩ := hS.nm [161, 160, 159, 153, 152, 151, 16, 15, 8, 7, 6, 0] [62, 61, 50, 9, 0] rfl rfl
     try dsimp only [rPair, rInt] at hS
     refine then_n ?_
     replace hS := hS.ent (i := 161) (s' := .pv (.int .i64 ((k2 + 1 : Nat) : Int))) rfl (.int (wrap_succ (by omega)))
     obtain ⟨F, hS⟩ := hS.nm [160, 159, 153, 152, 151, 16, 15, 8, 7, 6, 0, 161] [62, 61, 50, 9, 0] rfl rfl
     exact ⟨(k2 + 1), F, ⟨by omega, trivial⟩, hS, by omega⟩
    have hil : k2 = (reachQ qb (Go.Gm.nth (reachQ qb (u : Int)) k)).length := by simp at hc13; omega
    refine wp_exit (then_x (then_x (block_x (block_n (then_n ?_)))))
    refine region_q hS
      (cF rfl (o_add .t (.ci (by kernel_rfl))) r1 trivial
      (cF rfl (oM .t) r1 trivial
      Chain.nil))
      hB ?_
    clear hS; intro a w F hS
    obtain ⟨F, hS⟩ := hS.nm [153, 152, 151, 16, 15, 8, 7, 6, 0] [62, 61, 50, 9, 0] rfl rfl
    try dsimp only [rPair, rInt] at hS
    refine then_n ?_
    replace hS := hS.ent (i := 153) (s' := .pv (.int .i64 ((k + 1 : Nat) : Int))) rfl (.int (wrap_succ (by omega)))
    obtain ⟨F, hS⟩ := hS.nm [152, 151, 16, 15, 8, 7, 6, 0, 153] [62, 61, 50, 9, 0] rfl rfl
    exact ⟨(k + 1), F, ⟨by omega, trivial⟩, hS, by omega⟩
   have hil : k = (reachQ qb (u : Int)).length := by simp at hc12; omega
   refine wp_exit (then_x (then_x (block_x (block_n (then_n ?_)))))
   refine region_q hS
     (cF rfl (oM .t) r1 trivial
     (cF rfl (o_add .t (.ci (by kernel_rfl))) r1 trivial
     (cF rfl (oN .t) r1 trivial
     Chain.nil)))
     hB ?_
   clear hS; intro a w F hS
   obtain ⟨F, hS⟩ := hS.nm [15, 8, 7, 6, 0] [62, 61, 50, 9, 0] rfl rfl
   try dsimp only [rPair, rInt] at hS
   refine then_n ?_
   replace hS := hS.ent (i := 15) (s' := .pv (.int .i64 ((u + 1 : Nat) : Int))) rfl (.int (wrap_succ (by omega)))
   obtain ⟨F, hS⟩ := hS.nm [8, 7, 6, 0, 15] [62, 61, 50, 9, 0] rfl rfl
   exact ⟨(u + 1), F, (by show u + 1 ≤ N; omega), hS, (by show N - (u + 1) < N - u; omega)⟩
  refine wp_exit (then_x (then_x (block_x (then_n (wp_seq ?_)))))
  refine region_q hS
    (cF rfl (oN .cb) trivial trivial
    Chain.nil)
    hB ?_
  clear hS; intro a w F hS
  obtain ⟨F, hS⟩ := hS.nm [6] [62, 61, 50, 9, 0] rfl rfl
  try dsimp only [rPair, rInt] at hS
  refine then_n (wp_ret ?_)
  refine ret_P hfr hS rfl (.tmp rfl .nil) (.one .refl)

end Go.Proofs.YtpahapjcdldodaaDoor
