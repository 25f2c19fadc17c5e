/- The document on slots. No condition beyond those that each theorem says. -/
import Derived.Test.YtdfpljecogijaaaDoorSl2
namespace Go.Proofs.YtdfpljecogijaaaDoor
open Go Go.Gm
set_option linter.unusedVariables false
set_option linter.unusedSimpArgs false
set_option maxHeartbeats 4000000
set_option maxRecDepth 8000


theorem slotsH_some {v : Value} {N : Nat} {ids : List Int} {w : World} {f y : Ys} (h : (slotsH v N ids).p w f y) : ∃ es, SlotsOk N ids es := by
  obtain ⟨x, h, _⟩ := h
  exact ⟨_, h⟩
theorem slotF_lo (ids : List Int) (id : Int) : -1 ≤ slotF 0 ids id := by
  rcases slotF_spec id ids 0 with ⟨h, _⟩ | ⟨i, _, h, _⟩ <;> omega
theorem free_some {ids : List Int} {id : Int} {k : Nat} (h : slotF 0 ids id = (k : Int)) : freeI ids id = (ids.set k 0, 0) := by unfold freeI; rw [if_pos (by omega), h]; rfl
theorem free_none {ids : List Int} {id : Int} (h : ¬ 0 ≤ slotF 0 ids id) : freeI ids id = (ids, 3) := if_neg h
theorem del_free {ids : List Int} {id : Int} {k : Nat} (h : slotF 0 ids id = (k : Int)) : delP (pairsF 0 ids) (k : Int) = pairsF 0 (ids.set k 0) := by
  have hk : k < ids.length := by
    rcases slotF_spec id ids 0 with ⟨h1, _⟩ | ⟨i, h1, h2, _⟩ <;> omega
  have := del_pairs ids 0 k hk
  rwa [Nat.zero_add] at this
/-- What is told of slots behind each deed. -/
theorem told_all {N : Nat} {ids : List Int} (x slot : Int) (hc : cntI ids ≤ N) (hN : N ≤ 4096) : (((((((!decide (decide (0 ≤ slotF 0 ids x) = decide (0 ≤ slotL (pairsF 0 ids) x)) || (decide (0 ≤ slotF 0 ids x) && !decide (slotR ids x = slotL (pairsF 0 ids) x))) || (!decide (0 ≤ slotF 0 ids x) && !decide (slotR ids x = 0))) || !decide (idAt ids slot = idL (pairsF 0 ids) slot)) || !decide ((!decide (idAt ids slot = 0)) = !decide (idAt ids slot = 0))) || !decide ((cntI ids : Int) = ((pairsF 0 ids).length : Int))) || !decide ((N : Int) - cntI ids = IntKind.wrap .i64 ((N : Int) - ((pairsF 0 ids).length : Int)))) || !decide (pairsF 0 ids = pairsF 0 ids)) = false := by
  rw [slotL_pairs, idL_at, pairs_len, wrap_i64 (by omega)]
  unfold slotR
  by_cases h : 0 ≤ slotF 0 ids x
  · rw [Int.max_eq_left h]; simp; omega
  · rw [Int.max_eq_right (by omega)]; simp [h]
/-- Ids that fall, one a slot. -/
def denseI (N i : Nat) : List Int := (List.range N).map fun j => if j < i then 1000 - (j : Int) else 0
theorem denseI_len (N i : Nat) : (denseI N i).length = N := by simp [denseI]
theorem denseI_nth {N i j : Nat} (h : j < N) : Go.Gm.nth (denseI N i) j = if j < i then 1000 - (j : Int) else 0 := by
  rw [nth_eq (by rw [denseI_len]; exact h)]; simp [denseI]
theorem denseI_zero (N : Nat) : denseI N 0 = zerosI N := by
  apply List.ext_getElem (by simp [denseI, zerosI])
  intro j h1 h2
  simp [denseI, zerosI]
theorem denseI_set {N i : Nat} (h : i < N) : (denseI N i).set i (1000 - (i : Int)) = denseI N (i + 1) := by
  apply List.ext_getElem (by simp [denseI])
  intro j h1 h2
  rw [List.getElem_set]
  simp only [denseI, List.getElem_map, List.getElem_range]
  by_cases e : i = j
  · subst e; simp
  · rw [if_neg e]
    by_cases e2 : j < i
    · rw [if_pos e2, if_pos (by omega)]
    · rw [if_neg e2, if_neg (by omega)]
theorem dense_take {N i : Nat} {es : List (MapE Int)} (hk : SlotsOk N (denseI N i) es) (hN : N ≤ 100) (h : i < N) : takeI N (denseI N i) (1000 - (i : Int)) = (denseI N (i + 1), (i : Int), 0) := by
  have hf : firstZ (denseI N i) = i := firstZ_spec (by rw [denseI_len]; exact h) (by rw [denseI_nth h]; simp) fun j hj => by rw [denseI_nth (by omega), if_pos hj]; omega
  have hs : ¬ 0 ≤ slotF 0 (denseI N i) (1000 - (i : Int)) := by
    rcases slotF_spec (1000 - (i : Int)) (denseI N i) 0 with ⟨h1, _⟩ | ⟨j, h1, h2, h3, h4⟩
    · omega
    · rw [denseI_len] at h1
      rw [denseI_nth h1] at h3
      split at h3 <;> omega
  have hc : cntI (denseI N i) ≠ N := fun e => by
    have := cntI_full.1 (by rw [denseI_len]; exact e) i (by rw [denseI_len]; exact h)
    rw [denseI_nth h] at this
    simp at this
  unfold takeI
  rw [if_neg (by omega), if_neg hs, if_neg hc, hf, Int.toNat_natCast, denseI_set h]
theorem dense_full (N : Nat) (hN : N ≤ 100) : cntI (denseI N N) = N := by
  have := (cntI_full (ids := denseI N N)).2 fun i hi => by rw [denseI_len] at hi; rw [denseI_nth hi, if_pos hi]; omega
  rwa [denseI_len] at this
/-- Who frees its slot where all are taken, and takes one, has that one. -/
theorem again {N : Nat} {ids : List Int} {es : List (MapE Int)} (hk : SlotsOk N ids es) (hc : cntI ids = N) {x : Int} {k : Nat} (h : slotF 0 ids x = (k : Int)) : takeI N (ids.set k 0) x = (ids, (k : Int), 0) := by
  obtain ⟨hkN, hkx, hx0, hk2⟩ := hk.free h
  have hl := hk.len
  have hrg := hk.rg k hkN
  have hn : ∀ j, j < N → Go.Gm.nth (ids.set k 0) j = if k = j then 0 else Go.Gm.nth ids j := fun j hj => nth_setI (by omega)
  have hfull := cntI_full.1 (by rw [hc, hl] : cntI ids = ids.length)
  have hf : firstZ (ids.set k 0) = k := firstZ_spec (by rw [List.length_set]; omega) (by rw [hn k hkN, if_pos rfl]) fun j hj => by rw [hn j (by omega), if_neg (by omega)]; exact hfull j (by omega)
  have hs : ¬ 0 ≤ slotF 0 (ids.set k 0) x := by
    rcases slotF_spec x (ids.set k 0) 0 with ⟨h1, _⟩ | ⟨j, h1, h2, h3, h4⟩
    · omega
    · rw [List.length_set] at h1
      rw [hn j (by omega)] at h3
      split at h3
      · exact absurd h3.symm h4
      · rename_i hne
        exact absurd (hk.one k j hkN (by omega) (by rw [hkx, h3]) (by rw [hkx]; exact hx0)) hne
  have hcn : cntI (ids.set k 0) ≠ N := by
    have := cntI_set (ids := ids) (i := k) (v := 0) (by omega)
    rw [if_pos (by rw [hkx]; exact hx0), if_neg (by simp)] at this
    omega
  unfold takeI
  rw [if_neg (by rw [← hkx]; omega), if_neg hs, if_neg hcn, hf, Int.toNat_natCast, List.set_set]
  congr 1
  apply List.ext_getElem (by simp)
  intro j h1 h2
  rw [List.getElem_set]
  split
  · rename_i e; subst e; rw [nth_eq h2] at hkx; exact hkx.symm
  · rfl
theorem mem_pairsF : ∀ {ids : List Int} {n : Nat} {p : PairD}, p ∈ pairsF n ids → ∃ i : Nat, i < ids.length ∧ p.key = ((n + i : Nat) : Int) ∧ p.val = Go.Gm.nth ids i ∧ p.val ≠ 0
  | [], _, _, h => by cases h
  | x :: t, n, p, h => by
    rw [pairsF_cons] at h
    rcases List.mem_append.1 h with h | h
    · split at h
      · cases h
      · rename_i hx
        simp at h
        subst h
        exact ⟨0, by simp, by simp, rfl, hx⟩
    · obtain ⟨i, h1, h2, h3, h4⟩ := mem_pairsF h
      exact ⟨i + 1, by simpa using h1, by rw [h2]; omega, h3, h4⟩
theorem pair_told {N : Nat} {ids : List Int} {es : List (MapE Int)} (hk : SlotsOk N ids es) {p : PairD} (h : p ∈ pairsF 0 ids) : slotF 0 ids p.val = p.key ∧ 0 ≤ p.key ∧ idAt ids p.key = p.val ∧ p.val ≠ 0 := by
  obtain ⟨i, h1, h2, h3, h4⟩ := mem_pairsF h
  have hl := hk.len
  rw [Nat.zero_add] at h2
  refine ⟨?_, by omega, ?_, h4⟩
  · rcases slotF_spec p.val ids 0 with ⟨_, g2⟩ | ⟨j, g1, g2, g3, _⟩
    · exact absurd (g2 i h1 h3.symm) h4
    · have := hk.one i j (by omega) (by omega) (by rw [g3, h3]) (by rw [← h3]; exact h4)
      subst this
      rw [g2, h2, Nat.zero_add]
  · unfold idAt
    rw [if_pos (by omega), h2, Int.toNat_natCast, h3]

theorem refSlot21_c (q : List PairD) (x : Int) : FnP Tryd.prog 12 [.sl rPair q, .int .i64 x] (.int .i64 (slotL q x)) := by
  refine FnP.mk Tryd.func12 rfl Tryd.ntmps12 rfl ?_
  intro B a w F hB hfr hS
  have hql := Sat.lenSl hS (i := 0) rfl
  refine wp_seq ?_
  refine region_seq hS (by kernel_rfl)
    (cF rfl (o_assign (.ci (by kernel_rfl)) (by rfl)) trivial trivial
    Chain.nil)
    (by kernel_rfl) (by rw [hB]; kernel_rfl) ?_
  clear hS; intro a w F hS
  obtain ⟨F, hS⟩ := hS.norm [(0, _), (1, _), (4, _)] [(0, _)] r3 r1
  try dsimp only [rPair] at hS
  refine then_n ?_
  refine wp_seq ?_
  refine wp_seq ?_
  refine region_seq hS (by kernel_rfl)
    (cF rfl (o_move .t (by rfl)) r1 trivial
    (cF rfl (o_len_sl Tryd.underlying26 .t) r1 trivial
    (cF rfl (o_move (.ci (by kernel_rfl)) (by rfl)) trivial trivial
    Chain.nil)))
    (by kernel_rfl) (by rw [hB]; kernel_rfl) ?_
  clear hS; intro a w F hS
  obtain ⟨F, hS⟩ := hS.norm [(1, _), (4, _), (7, _), (8, _), (9, _)] [(0, _)] r5 r1
  try dsimp only [rPair] at hS
  refine then_n ?_
  refine wp_block ?_
  refine loop_keep (σ := (Nat)) [1, 4, 7, 8] [0] (fun s => [(9, .pv (.int .i64 (s : Int)))]) (fun s => []) (fun s => s ≤ q.length ∧ (slotL (q.drop s) x = slotL q x)) (fun s => q.length - s) (0) hS ⟨rfl, rfl, rfl, rfl, rfl, trivial⟩ ⟨rfl, trivial⟩ ⟨Nat.zero_le _, rfl⟩ ?_
  clear hS; intro i a w F hC hS
  try dsimp only at hC
  obtain ⟨F, hS⟩ := hS.norm [(1, _), (4, _), (7, _), (8, _), (9, _)] [(0, _)] r5 r1
  try dsimp only at hS
  obtain ⟨hi, hq⟩ := hC
  refine wp_seq ?_
  refine region_seq hS (by kernel_rfl)
    (cF rfl (o_lss .t .t) r2 trivial
    Chain.nil)
    (by kernel_rfl) (by rw [hB]; kernel_rfl) ?_
  clear hS; intro a w F hS
  obtain ⟨F, hS⟩ := hS.norm [(1, _), (4, _), (7, _), (8, _), (9, _), (10, _)] [(0, _)] r6 r1
  try dsimp only [rPair] at hS
  refine then_n ?_
  refine wp_seq ?_
  refine cond_b hS rfl (fun hc0 => ?_) (fun hc0 => ?_)
  ·skip
   have hil : i < q.length := by simp at hc0; omega
   refine wp_skip ?_
   refine then_n ?_
   refine wp_seq ?_
   refine wp_block ?_
   refine wp_seq ?_
   refine region_seq hS (by kernel_rfl)
     (cF rfl (o_indexAddr_sl (sz := 2) (.mk Tryd.underlying26 (by kernel_rfl)) (by intro x; rfl) .t .t (by first | assumption | omega) (by first | assumption | omega)) r2 trivial
     (cF rfl (o_load_ref (ag := true) (sz := 2) .t (by kernel_rfl) (by kernel_rfl) (by kernel_rfl)) r1 trivial
     (cF rfl (o_alloc (zs := [.int .i64 0, .int .i64 0]) 101 (by kernel_rfl)) trivial trivial
     (cF rfl (o_storeA (sz := 2) 101 .same .t (by kernel_rfl) (by kernel_rfl) (by kernel_rfl)) r2 r1
     Chain.nil))))
     (by kernel_rfl) (by rw [hB]; kernel_rfl) ?_
   clear hS; intro a w F hS
   replace hS := hS.sub
   obtain ⟨F, hS⟩ := hS.norm [(1, _), (4, _), (6, _), (7, _), (8, _), (9, _), (10, _), (11, _), (12, _)] [(0, _), (101, _)] ⟨rfl, rfl, rfl, rfl, rfl, rfl, rfl, rfl, rfl, trivial⟩ r2
   try dsimp only [RS.sub, SF.sub, CF.sub, csub, Anc.sub, List.map, stCells, List.length_cons, List.length_nil, Nat.reduceAdd, List.drop_succ_cons, List.drop_zero, List.drop_nil, List.take_succ_cons, List.take_zero, List.take_nil, List.cons_append, List.nil_append, zCF, ldSF, rPair] at hS
   generalize Act.tau a 6 = v6 at hS
   try simp only [Int.toNat_natCast] at hS
   refine then_n ?_
   refine wp_seq ?_
   refine region_seq hS (by kernel_rfl)
     (cF rfl (o_fieldAddr (off := 1) 101 .is (by kernel_rfl) (by rfl)) r1 r1
     (cF rfl (o_load (ag := false) (sz := 1) 101 .adr (by kernel_rfl) (by kernel_rfl) (by kernel_rfl) (by rfl)) r1 r1
     (cF rfl (o_move .t (by rfl)) r1 trivial
     (cF rfl (o_eql .t .t) r2 trivial
     Chain.nil))))
     (by kernel_rfl) (by rw [hB]; kernel_rfl) ?_
   clear hS; intro a w F hS
   obtain ⟨F, hS⟩ := hS.norm [(1, _), (4, _), (6, _), (7, _), (8, _), (9, _), (10, _), (11, _), (12, _), (13, _), (14, _), (15, _), (16, _)] [(0, _), (101, _)] ⟨rfl, rfl, rfl, rfl, rfl, rfl, rfl, rfl, rfl, rfl, rfl, rfl, rfl, trivial⟩ r2
   try dsimp only [List.map, List.drop_succ_cons, List.drop_zero, List.drop_nil, List.take_succ_cons, List.take_zero, List.take_nil, ldSF, rPair] at hS
   refine then_n ?_
   refine cond_b hS rfl (fun hc1 => ?_) (fun hc1 => ?_)
   ·skip
    have hBq : (Go.Gm.nth q i).val = x := by simpa using hc1
    have hg : (Go.Gm.nth q i).key = slotL q x := by rw [← hq, drop_nth hil]; unfold slotL; rw [List.find?_cons, decide_eq_true hBq]; rfl
    refine wp_seq ?_
    refine region_seq hS (by kernel_rfl)
      (cF rfl (o_fieldAddr (off := 0) 101 .is (by kernel_rfl) (by rfl)) r1 r1
      (cF rfl (o_load (ag := false) (sz := 1) 101 .adr (by kernel_rfl) (by kernel_rfl) (by kernel_rfl) (by rfl)) r1 r1
      (cF rfl (o_assign .t (by rfl)) r1 trivial
      Chain.nil)))
      (by kernel_rfl) (by rw [hB]; kernel_rfl) ?_
    clear hS; intro a w F hS
    obtain ⟨F, hS⟩ := hS.norm [(1, _), (4, _), (6, _), (7, _), (8, _), (9, _), (10, _), (11, _), (12, _), (13, _), (14, _), (15, _), (16, _), (17, _), (18, _)] [(0, _), (101, _)] ⟨rfl, rfl, rfl, rfl, rfl, rfl, rfl, rfl, rfl, rfl, rfl, rfl, rfl, rfl, rfl, trivial⟩ r2
    try dsimp only [List.map, List.drop_succ_cons, List.drop_zero, List.drop_nil, List.take_succ_cons, List.take_zero, List.take_nil, ldSF, rPair] at hS
    refine then_n ?_
    refine wp_ret ?_
    refine block_r ?_
    refine then_r ?_
    refine then_r ?_
    refine block_r ?_
    refine then_r ?_
    refine ret_P hfr hS rfl (.tmp rfl .nil) (.one (.int hg))
   ·skip
    have hBq : ¬ (Go.Gm.nth q i).val = x := by simpa using hc1
    refine wp_skip ?_
    refine block_n ?_
    refine then_n ?_
    refine region_seq hS (by kernel_rfl)
      (cF rfl (o_add .t (.ci (by kernel_rfl))) r1 trivial
      (cF rfl (o_move .t (by rfl)) r1 trivial
      Chain.nil))
      (by kernel_rfl) (by rw [hB]; kernel_rfl) ?_
    clear hS; intro a w F hS
    obtain ⟨F, hS⟩ := hS.norm [(1, _), (4, _), (6, _), (7, _), (8, _), (9, _), (10, _), (11, _), (12, _), (13, _), (14, _), (15, _), (16, _), (19, _)] [(0, _), (101, _)] ⟨rfl, rfl, rfl, rfl, rfl, rfl, rfl, rfl, rfl, rfl, rfl, rfl, rfl, rfl, trivial⟩ r2
    try dsimp only [rPair] at hS
    refine then_n ?_
    replace hS := hS.ent (i := 9) (s' := .pv (.int .i64 ((i + 1 : Nat) : Int))) rfl (.int (wrap_succ (by omega)))
    obtain ⟨F, hS⟩ := hS.norm [(9, _), (1, _), (4, _), (7, _), (8, _)] [(0, _)] ⟨rfl, rfl, rfl, rfl, rfl, trivial⟩ ⟨rfl, trivial⟩
    exact ⟨(i + 1), F, ⟨by omega, (by rw [← hq, drop_nth hil]; unfold slotL; rw [List.find?_cons, decide_eq_false hBq])⟩, hS, by omega⟩
  ·skip
   have hil : i = q.length := by simp at hc0; omega
   have hg : (-1 : Int) = slotL q x := by rw [← hq, hil, List.drop_length]; rfl
   refine wp_exit ?_
   refine then_x ?_
   refine then_x ?_
   refine block_x ?_
   refine then_n ?_
   refine wp_seq ?_
   refine region_seq hS (by kernel_rfl)
     (cF rfl (o_assign (.ci (by kernel_rfl)) (by rfl)) trivial trivial
     Chain.nil)
     (by kernel_rfl) (by rw [hB]; kernel_rfl) ?_
   clear hS; intro a w F hS
   obtain ⟨F, hS⟩ := hS.norm [(4, _)] [(0, _)] r1 r1
   try dsimp only [rPair] at hS
   refine then_n ?_
   refine wp_ret ?_
   refine ret_P hfr hS rfl (.tmp rfl .nil) (.one (.int hg))

theorem refId21_c (q : List PairD) (x : Int) : FnP Tryd.prog 19 [.sl rPair q, .int .i64 x] (.int .i64 (idL q x)) := by
  refine FnP.mk Tryd.func19 rfl Tryd.ntmps19 rfl ?_
  intro B a w F hB hfr hS
  have hql := Sat.lenSl hS (i := 0) rfl
  refine wp_seq ?_
  refine region_seq hS (by kernel_rfl)
    (cF rfl (o_assign (.ci (by kernel_rfl)) (by rfl)) trivial trivial
    Chain.nil)
    (by kernel_rfl) (by rw [hB]; kernel_rfl) ?_
  clear hS; intro a w F hS
  obtain ⟨F, hS⟩ := hS.norm [(0, _), (1, _), (4, _)] [(0, _)] r3 r1
  try dsimp only [rPair] at hS
  refine then_n ?_
  refine wp_seq ?_
  refine wp_seq ?_
  refine region_seq hS (by kernel_rfl)
    (cF rfl (o_move .t (by rfl)) r1 trivial
    (cF rfl (o_len_sl Tryd.underlying26 .t) r1 trivial
    (cF rfl (o_move (.ci (by kernel_rfl)) (by rfl)) trivial trivial
    Chain.nil)))
    (by kernel_rfl) (by rw [hB]; kernel_rfl) ?_
  clear hS; intro a w F hS
  obtain ⟨F, hS⟩ := hS.norm [(1, _), (4, _), (7, _), (8, _), (9, _)] [(0, _)] r5 r1
  try dsimp only [rPair] at hS
  refine then_n ?_
  refine wp_block ?_
  refine loop_keep (σ := (Nat)) [1, 4, 7, 8] [0] (fun s => [(9, .pv (.int .i64 (s : Int)))]) (fun s => []) (fun s => s ≤ q.length ∧ (idL (q.drop s) x = idL q x)) (fun s => q.length - s) (0) hS ⟨rfl, rfl, rfl, rfl, rfl, trivial⟩ ⟨rfl, trivial⟩ ⟨Nat.zero_le _, rfl⟩ ?_
  clear hS; intro i a w F hC hS
  try dsimp only at hC
  obtain ⟨F, hS⟩ := hS.norm [(1, _), (4, _), (7, _), (8, _), (9, _)] [(0, _)] r5 r1
  try dsimp only at hS
  obtain ⟨hi, hq⟩ := hC
  refine wp_seq ?_
  refine region_seq hS (by kernel_rfl)
    (cF rfl (o_lss .t .t) r2 trivial
    Chain.nil)
    (by kernel_rfl) (by rw [hB]; kernel_rfl) ?_
  clear hS; intro a w F hS
  obtain ⟨F, hS⟩ := hS.norm [(1, _), (4, _), (7, _), (8, _), (9, _), (10, _)] [(0, _)] r6 r1
  try dsimp only [rPair] at hS
  refine then_n ?_
  refine wp_seq ?_
  refine cond_b hS rfl (fun hc0 => ?_) (fun hc0 => ?_)
  ·skip
   have hil : i < q.length := by simp at hc0; omega
   refine wp_skip ?_
   refine then_n ?_
   refine wp_seq ?_
   refine wp_block ?_
   refine wp_seq ?_
   refine region_seq hS (by kernel_rfl)
     (cF rfl (o_indexAddr_sl (sz := 2) (.mk Tryd.underlying26 (by kernel_rfl)) (by intro x; rfl) .t .t (by first | assumption | omega) (by first | assumption | omega)) r2 trivial
     (cF rfl (o_load_ref (ag := true) (sz := 2) .t (by kernel_rfl) (by kernel_rfl) (by kernel_rfl)) r1 trivial
     (cF rfl (o_alloc (zs := [.int .i64 0, .int .i64 0]) 101 (by kernel_rfl)) trivial trivial
     (cF rfl (o_storeA (sz := 2) 101 .same .t (by kernel_rfl) (by kernel_rfl) (by kernel_rfl)) r2 r1
     Chain.nil))))
     (by kernel_rfl) (by rw [hB]; kernel_rfl) ?_
   clear hS; intro a w F hS
   replace hS := hS.sub
   obtain ⟨F, hS⟩ := hS.norm [(1, _), (4, _), (6, _), (7, _), (8, _), (9, _), (10, _), (11, _), (12, _)] [(0, _), (101, _)] ⟨rfl, rfl, rfl, rfl, rfl, rfl, rfl, rfl, rfl, trivial⟩ r2
   try dsimp only [RS.sub, SF.sub, CF.sub, csub, Anc.sub, List.map, stCells, List.length_cons, List.length_nil, Nat.reduceAdd, List.drop_succ_cons, List.drop_zero, List.drop_nil, List.take_succ_cons, List.take_zero, List.take_nil, List.cons_append, List.nil_append, zCF, ldSF, rPair] at hS
   generalize Act.tau a 6 = v6 at hS
   try simp only [Int.toNat_natCast] at hS
   refine then_n ?_
   refine wp_seq ?_
   refine region_seq hS (by kernel_rfl)
     (cF rfl (o_fieldAddr (off := 0) 101 .is (by kernel_rfl) (by rfl)) r1 r1
     (cF rfl (o_load (ag := false) (sz := 1) 101 .adr (by kernel_rfl) (by kernel_rfl) (by kernel_rfl) (by rfl)) r1 r1
     (cF rfl (o_move .t (by rfl)) r1 trivial
     (cF rfl (o_eql .t .t) r2 trivial
     Chain.nil))))
     (by kernel_rfl) (by rw [hB]; kernel_rfl) ?_
   clear hS; intro a w F hS
   obtain ⟨F, hS⟩ := hS.norm [(1, _), (4, _), (6, _), (7, _), (8, _), (9, _), (10, _), (11, _), (12, _), (13, _), (14, _), (15, _), (16, _)] [(0, _), (101, _)] ⟨rfl, rfl, rfl, rfl, rfl, rfl, rfl, rfl, rfl, rfl, rfl, rfl, rfl, trivial⟩ r2
   try dsimp only [List.map, List.drop_succ_cons, List.drop_zero, List.drop_nil, List.take_succ_cons, List.take_zero, List.take_nil, ldSF, rPair] at hS
   refine then_n ?_
   refine cond_b hS rfl (fun hc1 => ?_) (fun hc1 => ?_)
   ·skip
    have hBq : (Go.Gm.nth q i).key = x := by simpa using hc1
    have hg : (Go.Gm.nth q i).val = idL q x := by rw [← hq, drop_nth hil]; unfold idL; rw [List.find?_cons, decide_eq_true hBq]; rfl
    refine wp_seq ?_
    refine region_seq hS (by kernel_rfl)
      (cF rfl (o_fieldAddr (off := 1) 101 .is (by kernel_rfl) (by rfl)) r1 r1
      (cF rfl (o_load (ag := false) (sz := 1) 101 .adr (by kernel_rfl) (by kernel_rfl) (by kernel_rfl) (by rfl)) r1 r1
      (cF rfl (o_assign .t (by rfl)) r1 trivial
      Chain.nil)))
      (by kernel_rfl) (by rw [hB]; kernel_rfl) ?_
    clear hS; intro a w F hS
    obtain ⟨F, hS⟩ := hS.norm [(1, _), (4, _), (6, _), (7, _), (8, _), (9, _), (10, _), (11, _), (12, _), (13, _), (14, _), (15, _), (16, _), (17, _), (18, _)] [(0, _), (101, _)] ⟨rfl, rfl, rfl, rfl, rfl, rfl, rfl, rfl, rfl, rfl, rfl, rfl, rfl, rfl, rfl, trivial⟩ r2
    try dsimp only [List.map, List.drop_succ_cons, List.drop_zero, List.drop_nil, List.take_succ_cons, List.take_zero, List.take_nil, ldSF, rPair] at hS
    refine then_n ?_
    refine wp_ret ?_
    refine block_r ?_
    refine then_r ?_
    refine then_r ?_
    refine block_r ?_
    refine then_r ?_
    refine ret_P hfr hS rfl (.tmp rfl .nil) (.one (.int hg))
   ·skip
    have hBq : ¬ (Go.Gm.nth q i).key = x := by simpa using hc1
    refine wp_skip ?_
    refine block_n ?_
    refine then_n ?_
    refine region_seq hS (by kernel_rfl)
      (cF rfl (o_add .t (.ci (by kernel_rfl))) r1 trivial
      (cF rfl (o_move .t (by rfl)) r1 trivial
      Chain.nil))
      (by kernel_rfl) (by rw [hB]; kernel_rfl) ?_
    clear hS; intro a w F hS
    obtain ⟨F, hS⟩ := hS.norm [(1, _), (4, _), (6, _), (7, _), (8, _), (9, _), (10, _), (11, _), (12, _), (13, _), (14, _), (15, _), (16, _), (19, _)] [(0, _), (101, _)] ⟨rfl, rfl, rfl, rfl, rfl, rfl, rfl, rfl, rfl, rfl, rfl, rfl, rfl, rfl, trivial⟩ r2
    try dsimp only [rPair] at hS
    refine then_n ?_
    replace hS := hS.ent (i := 9) (s' := .pv (.int .i64 ((i + 1 : Nat) : Int))) rfl (.int (wrap_succ (by omega)))
    obtain ⟨F, hS⟩ := hS.norm [(9, _), (1, _), (4, _), (7, _), (8, _)] [(0, _)] ⟨rfl, rfl, rfl, rfl, rfl, trivial⟩ ⟨rfl, trivial⟩
    exact ⟨(i + 1), F, ⟨by omega, (by rw [← hq, drop_nth hil]; unfold idL; rw [List.find?_cons, decide_eq_false hBq])⟩, hS, by omega⟩
  ·skip
   have hil : i = q.length := by simp at hc0; omega
   have hg : (0 : Int) = idL q x := by rw [← hq, hil, List.drop_length]; rfl
   refine wp_exit ?_
   refine then_x ?_
   refine then_x ?_
   refine block_x ?_
   refine then_n ?_
   refine wp_seq ?_
   refine region_seq hS (by kernel_rfl)
     (cF rfl (o_assign (.ci (by kernel_rfl)) (by rfl)) trivial trivial
     Chain.nil)
     (by kernel_rfl) (by rw [hB]; kernel_rfl) ?_
   clear hS; intro a w F hS
   obtain ⟨F, hS⟩ := hS.norm [(4, _)] [(0, _)] r1 r1
   try dsimp only [rPair] at hS
   refine then_n ?_
   refine wp_ret ?_
   refine ret_P hfr hS rfl (.tmp rfl .nil) (.one (.int hg))

theorem room21_c (m : Int) : FnP Tryd.prog 22 [.int .i64 m] (.int .i64 (roomN m)) := by
  refine FnP.mk Tryd.func22 rfl Tryd.ntmps22 rfl ?_
  intro B a w F hB hfr hS
  refine wp_seq ?_
  refine region_seq hS (by kernel_rfl)
    (cF rfl (o_assign (.ci (by kernel_rfl)) (by rfl)) trivial trivial
    Chain.nil)
    (by kernel_rfl) (by rw [hB]; kernel_rfl) ?_
  clear hS; intro a w F hS
  obtain ⟨F, hS⟩ := hS.norm [(0, _), (2, _)] [(0, _)] r2 r1
  refine then_n ?_
  refine wp_seq ?_
  refine wp_seq ?_
  refine region_seq hS (by kernel_rfl)
    (cF rfl (o_move .t (by rfl)) r1 trivial
    (cF rfl (o_lss .t (.ci (by kernel_rfl))) r1 trivial
    Chain.nil))
    (by kernel_rfl) (by rw [hB]; kernel_rfl) ?_
  clear hS; intro a w F hS
  obtain ⟨F, hS⟩ := hS.norm [(0, _), (2, _), (4, _)] [(0, _)] r3 r1
  refine then_n ?_
  refine cond_b hS rfl (fun hc0 => ?_) (fun hc0 => ?_)
  ·skip
   refine wp_seq ?_
   refine region_seq hS (by kernel_rfl)
     (cF rfl (o_assign (.ci (by kernel_rfl)) (by rfl)) trivial trivial
     Chain.nil)
     (by kernel_rfl) (by rw [hB]; kernel_rfl) ?_
   clear hS; intro a w F hS
   obtain ⟨F, hS⟩ := hS.norm [(0, _), (2, _)] [(0, _)] r2 r1
   refine then_n ?_
   refine wp_ret ?_
   refine then_r ?_
   refine ret_P hfr hS rfl (.tmp rfl .nil) (.one (.int (by unfold roomN; split <;> (try split) <;> simp_all <;> omega)))
  ·skip
   refine wp_skip ?_
   refine then_n ?_
   refine wp_seq ?_
   refine wp_seq ?_
   refine region_seq hS (by kernel_rfl)
     (cF rfl (o_move .t (by rfl)) r1 trivial
     (cF rfl (o_gtr .t (.ci (by kernel_rfl))) r1 trivial
     Chain.nil))
     (by kernel_rfl) (by rw [hB]; kernel_rfl) ?_
   clear hS; intro a w F hS
   obtain ⟨F, hS⟩ := hS.norm [(0, _), (2, _), (6, _)] [(0, _)] r3 r1
   refine then_n ?_
   refine cond_b hS rfl (fun hc1 => ?_) (fun hc1 => ?_)
   ·skip
    refine wp_seq ?_
    refine region_seq hS (by kernel_rfl)
      (cF rfl (o_assign (.ci (by kernel_rfl)) (by rfl)) trivial trivial
      Chain.nil)
      (by kernel_rfl) (by rw [hB]; kernel_rfl) ?_
    clear hS; intro a w F hS
    obtain ⟨F, hS⟩ := hS.norm [(0, _), (2, _)] [(0, _)] r2 r1
    refine then_n ?_
    refine wp_ret ?_
    refine then_r ?_
    refine ret_P hfr hS rfl (.tmp rfl .nil) (.one (.int (by unfold roomN; split <;> (try split) <;> simp_all <;> omega)))
   ·skip
    refine wp_skip ?_
    refine then_n ?_
    refine wp_seq ?_
    refine region_seq hS (by kernel_rfl)
      (cF rfl (o_move .t (by rfl)) r1 trivial
      (cF rfl (o_assign .t (by rfl)) r1 trivial
      Chain.nil))
      (by kernel_rfl) (by rw [hB]; kernel_rfl) ?_
    clear hS; intro a w F hS
    obtain ⟨F, hS⟩ := hS.norm [(2, _)] [(0, _)] r1 r1
    refine then_n ?_
    refine wp_ret ?_
    refine ret_P hfr hS rfl (.tmp rfl .nil) (.one (.int (by unfold roomN; split <;> (try split) <;> simp_all <;> omega)))

theorem id02_c (x : Int) : FnP Tryd.prog 58 [.int .i64 x] (.bool (decide (1 ≤ x) && decide (x ≤ 1048575))) := by
  refine FnP.mk Tryd.func58 rfl Tryd.ntmps58 rfl ?_
  intro B a w F hB hfr hS
  refine wp_seq ?_
  refine region_seq hS (by kernel_rfl)
    (cF rfl (o_assign .cb (by rfl)) trivial trivial
    Chain.nil)
    (by kernel_rfl) (by rw [hB]; kernel_rfl) ?_
  clear hS; intro a w F hS
  obtain ⟨F, hS⟩ := hS.norm [(0, _), (2, _)] [(0, _)] r2 r1
  refine then_n ?_
  refine wp_seq ?_
  refine region_seq hS (by kernel_rfl)
    (cF rfl (o_move .t (by rfl)) r1 trivial
    (cF rfl (o_geq .t (.ci (by kernel_rfl))) r1 trivial
    (cF rfl (o_move .t (by rfl)) r1 trivial
    (Chain.cons (Cert.cond rfl rfl (fun h => o_move .t (by rfl))) r2 trivial
    (Chain.cons (Cert.cond rfl rfl (fun h => o_leq (.w h) (.ci (by kernel_rfl)))) r2 trivial
    (cF rfl (o_and2 .t .t) r2 trivial
    (cF rfl (o_assign .t (by rfl)) r1 trivial
    Chain.nil)))))))
    (by kernel_rfl) (by rw [hB]; kernel_rfl) ?_
  clear hS; intro a w F hS
  obtain ⟨F, hS⟩ := hS.norm [(2, _)] [(0, _)] r1 r1
  refine then_n ?_
  refine wp_ret ?_
  refine ret_P hfr hS rfl (.tmp rfl .nil) (.one .refl)

theorem put06_c (l : List PairD) (k x : Int) (hl : l.length ≤ 1000000) : FnP Tryd.prog 59 [.sl rPair l, .int .i64 k, .int .i64 x] (.sl rPair (putP l k x)) := by
  refine FnP.mk Tryd.func59 rfl Tryd.ntmps59 rfl ?_
  intro B a w F hB hfr hS
  refine wp_seq ?_
  refine region_seq hS (by kernel_rfl)
    (cF rfl (o_assign (.c rfl) (by rfl)) trivial trivial
    Chain.nil)
    (by kernel_rfl) (by rw [hB]; kernel_rfl) ?_
  clear hS; intro a w F hS
  obtain ⟨F, hS⟩ := hS.norm [(0, _), (1, _), (2, _), (6, _)] [(0, _)] r4 r1
  try dsimp only [rPair] at hS
  refine then_n ?_
  refine wp_seq ?_
  refine region_seq hS (by kernel_rfl)
    (cF rfl (o_assign (.c rfl) (by rfl)) trivial trivial
    Chain.nil)
    (by kernel_rfl) (by rw [hB]; kernel_rfl) ?_
  clear hS; intro a w F hS
  obtain ⟨F, hS⟩ := hS.norm [(0, _), (1, _), (2, _), (6, _), (7, _)] [(0, _)] r5 r1
  try dsimp only [rPair] at hS
  refine then_n ?_
  refine wp_seq ?_
  refine region_seq hS (by kernel_rfl)
    (cF rfl (o_assign .cb (by rfl)) trivial trivial
    Chain.nil)
    (by kernel_rfl) (by rw [hB]; kernel_rfl) ?_
  clear hS; intro a w F hS
  obtain ⟨F, hS⟩ := hS.norm [(0, _), (1, _), (2, _), (6, _), (7, _), (8, _)] [(0, _)] r6 r1
  try dsimp only [rPair] at hS
  refine then_n ?_
  refine wp_seq ?_
  refine wp_seq ?_
  refine region_seq hS (by kernel_rfl)
    (cF rfl (o_move .t (by rfl)) r1 trivial
    (cF rfl (o_len_sl Tryd.underlying26 .t) r1 trivial
    (cF rfl (o_move (.ci (by kernel_rfl)) (by rfl)) trivial trivial
    Chain.nil)))
    (by kernel_rfl) (by rw [hB]; kernel_rfl) ?_
  clear hS; intro a w F hS
  obtain ⟨F, hS⟩ := hS.norm [(1, _), (2, _), (6, _), (7, _), (8, _), (11, _), (12, _), (13, _)] [(0, _)] r8 r1
  try dsimp only [rPair] at hS
  refine then_n ?_
  refine wp_block ?_
  replace hS := hS.fresh 50 rfl
  replace hS := hS.turn 50 rfl (nilRow (T := 44) (sz := 2) (R := rPair))
  refine loop_keep (σ := (Nat) × (Bool) × (Value) × (List PairD)) [1, 2, 6, 11, 12] [0] (fun s => [(13, .pv (.int .i64 (s.1 : Int))), (8, .pv (.bool s.2.1)), (7, .pv (.is s.2.2.1))]) (fun s => [(50, .ob (.val s.2.2.1) (rowH 44 2 rPair s.2.2.2))]) (fun s => s.1 ≤ l.length ∧ (s.2.2.2 ++ putPR k x (l.drop s.1) s.2.1 = putP l k x)) (fun s => l.length - s.1) ((0), _, (.slice none 0 0), ([])) hS ⟨rfl, rfl, rfl, rfl, rfl, rfl, rfl, rfl, trivial⟩ ⟨rfl, rfl, trivial⟩ ⟨Nat.zero_le _, rfl⟩ ?_
  clear hS; intro s a w F hC hS
  obtain ⟨i, d, v, out⟩ := s
  try dsimp only at hC
  obtain ⟨F, hS⟩ := hS.norm [(1, _), (2, _), (6, _), (7, _), (8, _), (11, _), (12, _), (13, _)] [(0, _), (50, _)] r8 r2
  try dsimp only at hS
  obtain ⟨hi, hq⟩ := hC
  have hol := congrArg List.length hq
  rw [List.length_append] at hol
  have htl := putP_len l k x
  refine wp_seq ?_
  refine region_seq hS (by kernel_rfl)
    (cF rfl (o_lss .t .t) r2 trivial
    Chain.nil)
    (by kernel_rfl) (by rw [hB]; kernel_rfl) ?_
  clear hS; intro a w F hS
  obtain ⟨F, hS⟩ := hS.norm [(1, _), (2, _), (6, _), (7, _), (8, _), (11, _), (12, _), (13, _), (14, _)] [(0, _), (50, _)] ⟨rfl, rfl, rfl, rfl, rfl, rfl, rfl, rfl, rfl, trivial⟩ r2
  try dsimp only [rPair] at hS
  refine then_n ?_
  refine wp_seq ?_
  refine cond_b hS rfl (fun hc0 => ?_) (fun hc0 => ?_)
  ·skip
   have hil : i < l.length := by simp at hc0; omega
   refine wp_skip ?_
   refine then_n ?_
   refine wp_seq ?_
   refine wp_block ?_
   refine wp_seq ?_
   refine region_seq hS (by kernel_rfl)
     (cF rfl (o_indexAddr_sl (sz := 2) (.mk Tryd.underlying26 (by kernel_rfl)) (by intro x; rfl) .t .t (by first | assumption | omega) (by first | assumption | omega)) r2 trivial
     (cF rfl (o_load_ref (ag := true) (sz := 2) .t (by kernel_rfl) (by kernel_rfl) (by kernel_rfl)) r1 trivial
     (cF rfl (o_alloc (zs := [.int .i64 0, .int .i64 0]) 101 (by kernel_rfl)) trivial trivial
     (cF rfl (o_storeA (sz := 2) 101 .same .t (by kernel_rfl) (by kernel_rfl) (by kernel_rfl)) r2 r1
     Chain.nil))))
     (by kernel_rfl) (by rw [hB]; kernel_rfl) ?_
   clear hS; intro a w F hS
   replace hS := hS.sub
   obtain ⟨F, hS⟩ := hS.norm [(1, _), (2, _), (6, _), (7, _), (8, _), (10, _), (11, _), (12, _), (13, _), (14, _), (15, _), (16, _)] [(0, _), (50, _), (101, _)] ⟨rfl, rfl, rfl, rfl, rfl, rfl, rfl, rfl, rfl, rfl, rfl, rfl, trivial⟩ r3
   try dsimp only [RS.sub, SF.sub, CF.sub, csub, Anc.sub, List.map, stCells, List.length_cons, List.length_nil, Nat.reduceAdd, List.drop_succ_cons, List.drop_zero, List.drop_nil, List.take_succ_cons, List.take_zero, List.take_nil, List.cons_append, List.nil_append, zCF, ldSF, rPair] at hS
   generalize Act.tau a 10 = v10 at hS
   try simp only [Int.toNat_natCast] at hS
   refine then_n ?_
   refine wp_seq ?_
   refine wp_seq ?_
   refine region_seq hS (by kernel_rfl)
     (cF rfl (o_move .t (by rfl)) r1 trivial
     (cF rfl (o_not .t) r1 trivial
     (cF rfl (o_move .t (by rfl)) r1 trivial
     (Chain.cons (Cert.cond rfl rfl (fun h => o_fieldAddr (off := 0) 101 .is (by kernel_rfl) (by rfl))) r2 r1
     (Chain.cons (Cert.cond rfl rfl (fun h => o_load (ag := false) (sz := 1) 101 (.w h .adr) (by kernel_rfl) (by kernel_rfl) (by kernel_rfl) (by rfl))) r2 r1
     (Chain.cons (Cert.cond rfl rfl (fun h => o_move .t (by rfl))) r2 trivial
     (Chain.cons (Cert.cond rfl rfl (fun h => o_geq (.w h) (.w h))) r3 trivial
     (cF rfl (o_and2 .t .t) r2 trivial
     Chain.nil))))))))
     (by kernel_rfl) (by rw [hB]; kernel_rfl) ?_
   clear hS; intro a w F hS
   obtain ⟨F, hS⟩ := hS.norm [(1, _), (2, _), (6, _), (7, _), (8, _), (10, _), (11, _), (12, _), (13, _), (14, _), (15, _), (16, _), (17, _), (18, _), (19, _), (20, _), (21, _), (22, _), (23, _), (24, _)] [(0, _), (50, _), (101, _)] ⟨rfl, rfl, rfl, rfl, rfl, rfl, rfl, rfl, rfl, rfl, rfl, rfl, rfl, rfl, rfl, rfl, rfl, rfl, rfl, rfl, trivial⟩ r3
   try dsimp only [List.map, List.drop_succ_cons, List.drop_zero, List.drop_nil, List.take_succ_cons, List.take_zero, List.take_nil, ldSF, rPair] at hS
   refine then_n ?_
   refine cond_b hS rfl (fun hc1 => ?_) (fun hc1 => ?_)
   ·skip
    have hA : d = false ∧ k ≤ (Go.Gm.nth l i).key := by simpa using hc1
    refine wp_seq ?_
    refine region_seq hS (by kernel_rfl)
      (cF rfl (o_move .t (by rfl)) r1 trivial
      (cF rfl (o_move .t (by rfl)) r1 trivial
      (cF rfl (o_move .t (by rfl)) r1 trivial
      (cF rfl (o_build (r := [(0, .tmp 26), (1, .tmp 27)]) (zs := [.int .i64 0, .int .i64 0]) (pl := [(0, 1), (1, 1)]) (by kernel_rfl) (by kernel_rfl) (.one rfl .t one_int (by kernel_rfl) (.one rfl .t one_int (by kernel_rfl) .nil)) (by rfl)) r2 trivial
      (cF rfl (o_buildSliceE (sz := 2) (zs := [.int .i64 0, .int .i64 0]) (r := [(0, .tmp 28)]) (l := [_, _]) Tryd.underlying26 (by kernel_rfl) (by kernel_rfl) (by kernel_rfl) (by kernel_rfl) rfl rfl (.agg rfl .t (by kernel_rfl) (by kernel_rfl) .nil) rfl) r1 trivial
      (cF rfl (o_append (sz := 2) (bs := 16) 50 (.mk' Tryd.underlying26 (by kernel_rfl) (by kernel_rfl)) (by intro x; rfl) .is (.arr (l' := [(⟨k, x⟩ : PairD)]) .t) (by simp only [List.length_append, List.length_cons, List.length_nil]; omega) (by decide)) ⟨rfl, rfl, trivial⟩ ⟨rfl, trivial⟩
      (cF rfl (o_assign .t (by rfl)) r1 trivial
      Chain.nil)))))))
      (by kernel_rfl) (by rw [hB]; kernel_rfl) ?_
    clear hS; intro a w F hS
    replace hS := hS.sub
    obtain ⟨F, hS⟩ := hS.norm [(1, _), (2, _), (6, _), (7, _), (8, _), (10, _), (11, _), (12, _), (13, _), (14, _), (15, _), (16, _), (17, _), (18, _), (19, _), (20, _), (21, _), (22, _), (23, _), (24, _), (25, _), (26, _), (27, _), (28, _), (29, _), (30, _)] [(0, _), (50, _), (101, _)] ⟨rfl, rfl, rfl, rfl, rfl, rfl, rfl, rfl, rfl, rfl, rfl, rfl, rfl, rfl, rfl, rfl, rfl, rfl, rfl, rfl, rfl, rfl, rfl, rfl, rfl, rfl, trivial⟩ r3
    try dsimp only [RS.sub, SF.sub, CF.sub, csub, Anc.sub, List.map, stCells, List.length_cons, List.length_nil, Nat.reduceAdd, List.drop_succ_cons, List.drop_zero, List.drop_nil, List.take_succ_cons, List.take_zero, List.take_nil, List.cons_append, List.nil_append, zCF, rPair] at hS
    generalize Act.tau a 30 = v30 at hS
    refine then_n ?_
    refine region_seq hS (by kernel_rfl)
      (cF rfl (o_assign .cb (by rfl)) trivial trivial
      Chain.nil)
      (by kernel_rfl) (by rw [hB]; kernel_rfl) ?_
    clear hS; intro a w F hS
    obtain ⟨F, hS⟩ := hS.norm [(1, _), (2, _), (6, _), (7, _), (8, _), (10, _), (11, _), (12, _), (13, _), (14, _), (15, _), (16, _), (17, _), (18, _), (19, _), (20, _), (21, _), (22, _), (23, _), (24, _), (25, _), (26, _), (27, _), (28, _), (29, _), (30, _)] [(0, _), (50, _), (101, _)] ⟨rfl, rfl, rfl, rfl, rfl, rfl, rfl, rfl, rfl, rfl, rfl, rfl, rfl, rfl, rfl, rfl, rfl, rfl, rfl, rfl, rfl, rfl, rfl, rfl, rfl, rfl, trivial⟩ r3
    try dsimp only [rPair] at hS
    refine then_n ?_
    refine wp_seq ?_
    refine region_seq hS (by kernel_rfl)
      (cF rfl (o_fieldAddr (off := 0) 101 .is (by kernel_rfl) (by rfl)) r1 r1
      (cF rfl (o_load (ag := false) (sz := 1) 101 .adr (by kernel_rfl) (by kernel_rfl) (by kernel_rfl) (by rfl)) r1 r1
      (cF rfl (o_move .t (by rfl)) r1 trivial
      (cF rfl (o_neq .t .t) r2 trivial
      Chain.nil))))
      (by kernel_rfl) (by rw [hB]; kernel_rfl) ?_
    clear hS; intro a w F hS
    obtain ⟨F, hS⟩ := hS.norm [(1, _), (2, _), (6, _), (7, _), (8, _), (10, _), (11, _), (12, _), (13, _), (14, _), (15, _), (16, _), (17, _), (18, _), (19, _), (20, _), (21, _), (22, _), (23, _), (24, _), (25, _), (26, _), (27, _), (28, _), (29, _), (30, _), (31, _), (32, _), (33, _), (34, _)] [(0, _), (50, _), (101, _)] ⟨rfl, rfl, rfl, rfl, rfl, rfl, rfl, rfl, rfl, rfl, rfl, rfl, rfl, rfl, rfl, rfl, rfl, rfl, rfl, rfl, rfl, rfl, rfl, rfl, rfl, rfl, rfl, rfl, rfl, rfl, trivial⟩ r3
    try dsimp only [List.map, List.drop_succ_cons, List.drop_zero, List.drop_nil, List.take_succ_cons, List.take_zero, List.take_nil, ldSF, rPair] at hS
    refine then_n ?_
    refine cond_b hS rfl (fun hc2 => ?_) (fun hc2 => ?_)
    ·skip
     have hBq : ¬ (Go.Gm.nth l i).key = k := by simpa using hc2
     refine region_seq hS (by kernel_rfl)
       (cF rfl (o_move .t (by rfl)) r1 trivial
       (cF rfl (o_load (ag := true) (sz := 2) 101 .is (by kernel_rfl) (by kernel_rfl) (by kernel_rfl) (by rfl)) r1 r1
       (cF rfl (o_buildSliceE (sz := 2) (zs := [.int .i64 0, .int .i64 0]) (r := [(0, .tmp 36)]) (l := [_, _]) Tryd.underlying26 (by kernel_rfl) (by kernel_rfl) (by kernel_rfl) (by kernel_rfl) rfl rfl (.agg rfl .t (by kernel_rfl) (by kernel_rfl) .nil) rfl) r1 trivial
       (cF rfl (o_append (sz := 2) (bs := 16) 50 (.mk' Tryd.underlying26 (by kernel_rfl) (by kernel_rfl)) (by intro x; rfl) .is (.arr (l' := [Go.Gm.nth l i]) .t) (by simp only [List.length_append, List.length_cons, List.length_nil]; omega) (by decide)) ⟨rfl, rfl, trivial⟩ ⟨rfl, trivial⟩
       (cF rfl (o_assign .t (by rfl)) r1 trivial
       Chain.nil)))))
       (by kernel_rfl) (by rw [hB]; kernel_rfl) ?_
     clear hS; intro a w F hS
     replace hS := hS.sub
     obtain ⟨F, hS⟩ := hS.norm [(1, _), (2, _), (6, _), (7, _), (8, _), (10, _), (11, _), (12, _), (13, _), (14, _), (15, _), (16, _), (17, _), (18, _), (19, _), (20, _), (21, _), (22, _), (23, _), (24, _), (25, _), (26, _), (27, _), (28, _), (29, _), (30, _), (31, _), (32, _), (33, _), (34, _), (35, _), (36, _), (37, _), (38, _)] [(0, _), (50, _), (101, _)] ⟨rfl, rfl, rfl, rfl, rfl, rfl, rfl, rfl, rfl, rfl, rfl, rfl, rfl, rfl, rfl, rfl, rfl, rfl, rfl, rfl, rfl, rfl, rfl, rfl, rfl, rfl, rfl, rfl, rfl, rfl, rfl, rfl, rfl, rfl, trivial⟩ r3
     try dsimp only [RS.sub, SF.sub, CF.sub, csub, Anc.sub, List.map, stCells, List.length_cons, List.length_nil, Nat.reduceAdd, List.drop_succ_cons, List.drop_zero, List.drop_nil, List.take_succ_cons, List.take_zero, List.take_nil, List.cons_append, List.nil_append, zCF, ldSF, rPair] at hS
     generalize Act.tau a 38 = v38 at hS
     refine block_n ?_
     refine then_n ?_
     refine region_seq hS (by kernel_rfl)
       (cF rfl (o_add .t (.ci (by kernel_rfl))) r1 trivial
       (cF rfl (o_move .t (by rfl)) r1 trivial
       Chain.nil))
       (by kernel_rfl) (by rw [hB]; kernel_rfl) ?_
     clear hS; intro a w F hS
     obtain ⟨F, hS⟩ := hS.norm [(1, _), (2, _), (6, _), (7, _), (8, _), (10, _), (11, _), (12, _), (13, _), (14, _), (15, _), (16, _), (17, _), (18, _), (19, _), (20, _), (21, _), (22, _), (23, _), (24, _), (25, _), (26, _), (27, _), (28, _), (29, _), (30, _), (31, _), (32, _), (33, _), (34, _), (35, _), (36, _), (37, _), (38, _), (39, _)] [(0, _), (50, _), (101, _)] ⟨rfl, rfl, rfl, rfl, rfl, rfl, rfl, rfl, rfl, rfl, rfl, rfl, rfl, rfl, rfl, rfl, rfl, rfl, rfl, rfl, rfl, rfl, rfl, rfl, rfl, rfl, rfl, rfl, rfl, rfl, rfl, rfl, rfl, rfl, rfl, trivial⟩ r3
     try dsimp only [rPair] at hS
     refine then_n ?_
     replace hS := hS.ent (i := 13) (s' := .pv (.int .i64 ((i + 1 : Nat) : Int))) rfl (.int (wrap_succ (by omega)))
     obtain ⟨F, hS⟩ := hS.norm [(13, _), (8, _), (7, _), (1, _), (2, _), (6, _), (11, _), (12, _)] [(50, _), (0, _)] ⟨rfl, rfl, rfl, rfl, rfl, rfl, rfl, rfl, trivial⟩ ⟨rfl, rfl, trivial⟩
     exact ⟨((i + 1), _, _, _), F, ⟨by omega, (by rw [drop_nth hil] at hq; first | exact pp_TT hq hA hBq | exact pp_TF hq hA hBq | exact pp_FT hq hA hBq | exact pp_FF hq hA hBq)⟩, hS, by omega⟩
    ·skip
     have hBq : (Go.Gm.nth l i).key = k := by simpa using hc2
     refine wp_skip ?_
     refine block_n ?_
     refine then_n ?_
     refine region_seq hS (by kernel_rfl)
       (cF rfl (o_add .t (.ci (by kernel_rfl))) r1 trivial
       (cF rfl (o_move .t (by rfl)) r1 trivial
       Chain.nil))
       (by kernel_rfl) (by rw [hB]; kernel_rfl) ?_
     clear hS; intro a w F hS
     obtain ⟨F, hS⟩ := hS.norm [(1, _), (2, _), (6, _), (7, _), (8, _), (10, _), (11, _), (12, _), (13, _), (14, _), (15, _), (16, _), (17, _), (18, _), (19, _), (20, _), (21, _), (22, _), (23, _), (24, _), (25, _), (26, _), (27, _), (28, _), (29, _), (30, _), (31, _), (32, _), (33, _), (34, _), (39, _)] [(0, _), (50, _), (101, _)] ⟨rfl, rfl, rfl, rfl, rfl, rfl, rfl, rfl, rfl, rfl, rfl, rfl, rfl, rfl, rfl, rfl, rfl, rfl, rfl, rfl, rfl, rfl, rfl, rfl, rfl, rfl, rfl, rfl, rfl, rfl, rfl, trivial⟩ r3
     try dsimp only [rPair] at hS
     refine then_n ?_
     replace hS := hS.ent (i := 13) (s' := .pv (.int .i64 ((i + 1 : Nat) : Int))) rfl (.int (wrap_succ (by omega)))
     obtain ⟨F, hS⟩ := hS.norm [(13, _), (8, _), (7, _), (1, _), (2, _), (6, _), (11, _), (12, _)] [(50, _), (0, _)] ⟨rfl, rfl, rfl, rfl, rfl, rfl, rfl, rfl, trivial⟩ ⟨rfl, rfl, trivial⟩
     exact ⟨((i + 1), _, _, _), F, ⟨by omega, (by rw [drop_nth hil] at hq; first | exact pp_TT hq hA hBq | exact pp_TF hq hA hBq | exact pp_FT hq hA hBq | exact pp_FF hq hA hBq)⟩, hS, by omega⟩
   ·skip
    have hA : ¬ (d = false ∧ k ≤ (Go.Gm.nth l i).key) := by rintro ⟨h1, h2⟩; subst h1; simp at hc1; omega
    refine wp_skip ?_
    refine then_n ?_
    refine wp_seq ?_
    refine region_seq hS (by kernel_rfl)
      (cF rfl (o_fieldAddr (off := 0) 101 .is (by kernel_rfl) (by rfl)) r1 r1
      (cF rfl (o_load (ag := false) (sz := 1) 101 .adr (by kernel_rfl) (by kernel_rfl) (by kernel_rfl) (by rfl)) r1 r1
      (cF rfl (o_move .t (by rfl)) r1 trivial
      (cF rfl (o_neq .t .t) r2 trivial
      Chain.nil))))
      (by kernel_rfl) (by rw [hB]; kernel_rfl) ?_
    clear hS; intro a w F hS
    obtain ⟨F, hS⟩ := hS.norm [(1, _), (2, _), (6, _), (7, _), (8, _), (10, _), (11, _), (12, _), (13, _), (14, _), (15, _), (16, _), (17, _), (18, _), (19, _), (20, _), (21, _), (22, _), (23, _), (24, _), (31, _), (32, _), (33, _), (34, _)] [(0, _), (50, _), (101, _)] ⟨rfl, rfl, rfl, rfl, rfl, rfl, rfl, rfl, rfl, rfl, rfl, rfl, rfl, rfl, rfl, rfl, rfl, rfl, rfl, rfl, rfl, rfl, rfl, rfl, trivial⟩ r3
    try dsimp only [List.map, List.drop_succ_cons, List.drop_zero, List.drop_nil, List.take_succ_cons, List.take_zero, List.take_nil, ldSF, rPair] at hS
    refine then_n ?_
    refine cond_b hS rfl (fun hc3 => ?_) (fun hc3 => ?_)
    ·skip
     have hBq : ¬ (Go.Gm.nth l i).key = k := by simpa using hc3
     refine region_seq hS (by kernel_rfl)
       (cF rfl (o_move .t (by rfl)) r1 trivial
       (cF rfl (o_load (ag := true) (sz := 2) 101 .is (by kernel_rfl) (by kernel_rfl) (by kernel_rfl) (by rfl)) r1 r1
       (cF rfl (o_buildSliceE (sz := 2) (zs := [.int .i64 0, .int .i64 0]) (r := [(0, .tmp 36)]) (l := [_, _]) Tryd.underlying26 (by kernel_rfl) (by kernel_rfl) (by kernel_rfl) (by kernel_rfl) rfl rfl (.agg rfl .t (by kernel_rfl) (by kernel_rfl) .nil) rfl) r1 trivial
       (cF rfl (o_append (sz := 2) (bs := 16) 50 (.mk' Tryd.underlying26 (by kernel_rfl) (by kernel_rfl)) (by intro x; rfl) .is (.arr (l' := [Go.Gm.nth l i]) .t) (by simp only [List.length_append, List.length_cons, List.length_nil]; omega) (by decide)) ⟨rfl, rfl, trivial⟩ ⟨rfl, trivial⟩
       (cF rfl (o_assign .t (by rfl)) r1 trivial
       Chain.nil)))))
       (by kernel_rfl) (by rw [hB]; kernel_rfl) ?_
     clear hS; intro a w F hS
     replace hS := hS.sub
     obtain ⟨F, hS⟩ := hS.norm [(1, _), (2, _), (6, _), (7, _), (8, _), (10, _), (11, _), (12, _), (13, _), (14, _), (15, _), (16, _), (17, _), (18, _), (19, _), (20, _), (21, _), (22, _), (23, _), (24, _), (31, _), (32, _), (33, _), (34, _), (35, _), (36, _), (37, _), (38, _)] [(0, _), (50, _), (101, _)] ⟨rfl, rfl, rfl, rfl, rfl, rfl, rfl, rfl, rfl, rfl, rfl, rfl, rfl, rfl, rfl, rfl, rfl, rfl, rfl, rfl, rfl, rfl, rfl, rfl, rfl, rfl, rfl, rfl, trivial⟩ r3
     try dsimp only [RS.sub, SF.sub, CF.sub, csub, Anc.sub, List.map, stCells, List.length_cons, List.length_nil, Nat.reduceAdd, List.drop_succ_cons, List.drop_zero, List.drop_nil, List.take_succ_cons, List.take_zero, List.take_nil, List.cons_append, List.nil_append, zCF, ldSF, rPair] at hS
     generalize Act.tau a 38 = v38 at hS
     refine block_n ?_
     refine then_n ?_
     refine region_seq hS (by kernel_rfl)
       (cF rfl (o_add .t (.ci (by kernel_rfl))) r1 trivial
       (cF rfl (o_move .t (by rfl)) r1 trivial
       Chain.nil))
       (by kernel_rfl) (by rw [hB]; kernel_rfl) ?_
     clear hS; intro a w F hS
     obtain ⟨F, hS⟩ := hS.norm [(1, _), (2, _), (6, _), (7, _), (8, _), (10, _), (11, _), (12, _), (13, _), (14, _), (15, _), (16, _), (17, _), (18, _), (19, _), (20, _), (21, _), (22, _), (23, _), (24, _), (31, _), (32, _), (33, _), (34, _), (35, _), (36, _), (37, _), (38, _), (39, _)] [(0, _), (50, _), (101, _)] ⟨rfl, rfl, rfl, rfl, rfl, rfl, rfl, rfl, rfl, rfl, rfl, rfl, rfl, rfl, rfl, rfl, rfl, rfl, rfl, rfl, rfl, rfl, rfl, rfl, rfl, rfl, rfl, rfl, rfl, trivial⟩ r3
     try dsimp only [rPair] at hS
     refine then_n ?_
     replace hS := hS.ent (i := 13) (s' := .pv (.int .i64 ((i + 1 : Nat) : Int))) rfl (.int (wrap_succ (by omega)))
     obtain ⟨F, hS⟩ := hS.norm [(13, _), (8, _), (7, _), (1, _), (2, _), (6, _), (11, _), (12, _)] [(50, _), (0, _)] ⟨rfl, rfl, rfl, rfl, rfl, rfl, rfl, rfl, trivial⟩ ⟨rfl, rfl, trivial⟩
     exact ⟨((i + 1), _, _, _), F, ⟨by omega, (by rw [drop_nth hil] at hq; first | exact pp_TT hq hA hBq | exact pp_TF hq hA hBq | exact pp_FT hq hA hBq | exact pp_FF hq hA hBq)⟩, hS, by omega⟩
    ·skip
     have hBq : (Go.Gm.nth l i).key = k := by simpa using hc3
     refine wp_skip ?_
     refine block_n ?_
     refine then_n ?_
     refine region_seq hS (by kernel_rfl)
       (cF rfl (o_add .t (.ci (by kernel_rfl))) r1 trivial
       (cF rfl (o_move .t (by rfl)) r1 trivial
       Chain.nil))
       (by kernel_rfl) (by rw [hB]; kernel_rfl) ?_
     clear hS; intro a w F hS
     obtain ⟨F, hS⟩ := hS.norm [(1, _), (2, _), (6, _), (7, _), (8, _), (10, _), (11, _), (12, _), (13, _), (14, _), (15, _), (16, _), (17, _), (18, _), (19, _), (20, _), (21, _), (22, _), (23, _), (24, _), (31, _), (32, _), (33, _), (34, _), (39, _)] [(0, _), (50, _), (101, _)] ⟨rfl, rfl, rfl, rfl, rfl, rfl, rfl, rfl, rfl, rfl, rfl, rfl, rfl, rfl, rfl, rfl, rfl, rfl, rfl, rfl, rfl, rfl, rfl, rfl, rfl, trivial⟩ r3
     try dsimp only [rPair] at hS
     refine then_n ?_
     replace hS := hS.ent (i := 13) (s' := .pv (.int .i64 ((i + 1 : Nat) : Int))) rfl (.int (wrap_succ (by omega)))
     obtain ⟨F, hS⟩ := hS.norm [(13, _), (8, _), (7, _), (1, _), (2, _), (6, _), (11, _), (12, _)] [(50, _), (0, _)] ⟨rfl, rfl, rfl, rfl, rfl, rfl, rfl, rfl, trivial⟩ ⟨rfl, rfl, trivial⟩
     exact ⟨((i + 1), _, _, _), F, ⟨by omega, (by rw [drop_nth hil] at hq; first | exact pp_TT hq hA hBq | exact pp_TF hq hA hBq | exact pp_FT hq hA hBq | exact pp_FF hq hA hBq)⟩, hS, by omega⟩
  ·skip
   have hil : i = l.length := by simp at hc0; omega
   refine wp_exit ?_
   refine then_x ?_
   refine then_x ?_
   refine block_x ?_
   refine then_n ?_
   refine wp_seq ?_
   refine wp_seq ?_
   refine region_seq hS (by kernel_rfl)
     (cF rfl (o_move .t (by rfl)) r1 trivial
     (cF rfl (o_not .t) r1 trivial
     Chain.nil))
     (by kernel_rfl) (by rw [hB]; kernel_rfl) ?_
   clear hS; intro a w F hS
   obtain ⟨F, hS⟩ := hS.norm [(1, _), (2, _), (6, _), (7, _), (41, _)] [(0, _), (50, _)] r5 r2
   try dsimp only [rPair] at hS
   refine then_n ?_
   refine cond_b hS rfl (fun hc4 => ?_) (fun hc4 => ?_)
   ·skip
    have hfin : out ++ [⟨k, x⟩] = putP l k x := by rw [hil, List.drop_length] at hq; cases d with | true => simp at hc4 | false => exact hq
    refine region_seq hS (by kernel_rfl)
      (cF rfl (o_move .t (by rfl)) r1 trivial
      (cF rfl (o_move .t (by rfl)) r1 trivial
      (cF rfl (o_move .t (by rfl)) r1 trivial
      (cF rfl (o_build (r := [(0, .tmp 43), (1, .tmp 44)]) (zs := [.int .i64 0, .int .i64 0]) (pl := [(0, 1), (1, 1)]) (by kernel_rfl) (by kernel_rfl) (.one rfl .t one_int (by kernel_rfl) (.one rfl .t one_int (by kernel_rfl) .nil)) (by rfl)) r2 trivial
      (cF rfl (o_buildSliceE (sz := 2) (zs := [.int .i64 0, .int .i64 0]) (r := [(0, .tmp 45)]) (l := [_, _]) Tryd.underlying26 (by kernel_rfl) (by kernel_rfl) (by kernel_rfl) (by kernel_rfl) rfl rfl (.agg rfl .t (by kernel_rfl) (by kernel_rfl) .nil) rfl) r1 trivial
      (cF rfl (o_append (sz := 2) (bs := 16) 50 (.mk' Tryd.underlying26 (by kernel_rfl) (by kernel_rfl)) (by intro x; rfl) .is (.arr (l' := [(⟨k, x⟩ : PairD)]) .t) (by simp only [List.length_append, List.length_cons, List.length_nil]; omega) (by decide)) ⟨rfl, rfl, trivial⟩ ⟨rfl, trivial⟩
      (cF rfl (o_assign .t (by rfl)) r1 trivial
      Chain.nil)))))))
      (by kernel_rfl) (by rw [hB]; kernel_rfl) ?_
    clear hS; intro a w F hS
    replace hS := hS.sub
    obtain ⟨F, hS⟩ := hS.norm [(6, _), (7, _)] [(0, _), (50, _)] r2 r2
    try dsimp only [RS.sub, SF.sub, CF.sub, csub, Anc.sub, List.map, stCells, List.length_cons, List.length_nil, Nat.reduceAdd, List.drop_succ_cons, List.drop_zero, List.drop_nil, List.take_succ_cons, List.take_zero, List.take_nil, List.cons_append, List.nil_append, zCF, rPair] at hS
    generalize Act.tau a 47 = v47 at hS
    refine then_n ?_
    refine wp_seq ?_
    refine region_seq hS (by kernel_rfl)
      (cF rfl (o_move .t (by rfl)) r1 trivial
      (cF rfl (o_assign .t (by rfl)) r1 trivial
      Chain.nil))
      (by kernel_rfl) (by rw [hB]; kernel_rfl) ?_
    clear hS; intro a w F hS
    obtain ⟨F, hS⟩ := hS.norm [(6, _)] [(0, _), (50, _)] r1 r2
    try dsimp only [rPair] at hS
    refine then_n ?_
    refine wp_ret ?_
    obtain ⟨F, hS⟩ := hS.give 50 6 rfl rfl
    refine ret_P hfr hS rfl (.tmp rfl .nil) (.one (.sl hfin))
   ·skip
    have hfin : out = putP l k x := by rw [hil, List.drop_length] at hq; cases d with | false => simp at hc4 | true => simpa [putPR] using hq
    refine wp_skip ?_
    refine then_n ?_
    refine wp_seq ?_
    refine region_seq hS (by kernel_rfl)
      (cF rfl (o_move .t (by rfl)) r1 trivial
      (cF rfl (o_assign .t (by rfl)) r1 trivial
      Chain.nil))
      (by kernel_rfl) (by rw [hB]; kernel_rfl) ?_
    clear hS; intro a w F hS
    obtain ⟨F, hS⟩ := hS.norm [(6, _)] [(0, _), (50, _)] r1 r2
    try dsimp only [rPair] at hS
    refine then_n ?_
    refine wp_ret ?_
    obtain ⟨F, hS⟩ := hS.give 50 6 rfl rfl
    refine ret_P hfr hS rfl (.tmp rfl .nil) (.one (.sl hfin))

theorem del06_c (l : List PairD) (k : Int) (hl : l.length ≤ 1000000) : FnP Tryd.prog 13 [.sl rPair l, .int .i64 k] (.tup [.sl rPair (delP l k), .bool (hasP l k)]) := by
  refine FnP.mk Tryd.func13 rfl Tryd.ntmps13 rfl ?_
  intro B a w F hB hfr hS
  refine wp_seq ?_
  refine region_seq hS (by kernel_rfl)
    (cF rfl (o_assign (.c rfl) (by rfl)) trivial trivial
    (cF rfl (o_assign .cb (by rfl)) trivial trivial
    Chain.nil))
    (by kernel_rfl) (by rw [hB]; kernel_rfl) ?_
  clear hS; intro a w F hS
  obtain ⟨F, hS⟩ := hS.norm [(0, _), (1, _), (4, _), (5, _)] [(0, _)] r4 r1
  try dsimp only [rPair] at hS
  refine then_n ?_
  refine wp_seq ?_
  refine region_seq hS (by kernel_rfl)
    (cF rfl (o_assign (.c rfl) (by rfl)) trivial trivial
    Chain.nil)
    (by kernel_rfl) (by rw [hB]; kernel_rfl) ?_
  clear hS; intro a w F hS
  obtain ⟨F, hS⟩ := hS.norm [(0, _), (1, _), (4, _), (5, _), (6, _)] [(0, _)] r5 r1
  try dsimp only [rPair] at hS
  refine then_n ?_
  refine wp_seq ?_
  refine region_seq hS (by kernel_rfl)
    (cF rfl (o_assign .cb (by rfl)) trivial trivial
    Chain.nil)
    (by kernel_rfl) (by rw [hB]; kernel_rfl) ?_
  clear hS; intro a w F hS
  obtain ⟨F, hS⟩ := hS.norm [(0, _), (1, _), (4, _), (5, _), (6, _), (7, _)] [(0, _)] r6 r1
  try dsimp only [rPair] at hS
  refine then_n ?_
  refine wp_seq ?_
  refine wp_seq ?_
  refine region_seq hS (by kernel_rfl)
    (cF rfl (o_move .t (by rfl)) r1 trivial
    (cF rfl (o_len_sl Tryd.underlying26 .t) r1 trivial
    (cF rfl (o_move (.ci (by kernel_rfl)) (by rfl)) trivial trivial
    Chain.nil)))
    (by kernel_rfl) (by rw [hB]; kernel_rfl) ?_
  clear hS; intro a w F hS
  obtain ⟨F, hS⟩ := hS.norm [(1, _), (4, _), (5, _), (6, _), (7, _), (10, _), (11, _), (12, _)] [(0, _)] r8 r1
  try dsimp only [rPair] at hS
  refine then_n ?_
  refine wp_block ?_
  replace hS := hS.fresh 50 rfl
  replace hS := hS.turn 50 rfl (nilRow (T := 44) (sz := 2) (R := rPair))
  refine loop_keep (σ := (Nat) × (Value) × (List PairD)) [1, 4, 5, 10, 11] [0] (fun s => [(12, .pv (.int .i64 (s.1 : Int))), (7, .pv (.bool (hasP (l.take s.1) k))), (6, .pv (.is s.2.1))]) (fun s => [(50, .ob (.val s.2.1) (rowH 44 2 rPair s.2.2))]) (fun s => s.1 ≤ l.length ∧ (s.2.2 = delP (l.take s.1) k)) (fun s => l.length - s.1) ((0), (.slice none 0 0), ([])) hS ⟨rfl, rfl, rfl, rfl, rfl, rfl, rfl, rfl, trivial⟩ ⟨rfl, rfl, trivial⟩ ⟨Nat.zero_le _, rfl⟩ ?_
  clear hS; intro s a w F hC hS
  obtain ⟨i, v, out⟩ := s
  try dsimp only at hC
  obtain ⟨F, hS⟩ := hS.norm [(1, _), (4, _), (5, _), (6, _), (7, _), (10, _), (11, _), (12, _)] [(0, _), (50, _)] r8 r2
  try dsimp only at hS
  obtain ⟨hi, hq⟩ := hC
  have hol : out.length ≤ i := by rw [hq]; exact Nat.le_trans (List.length_filter_le _ _) (by rw [List.length_take]; omega)
  refine wp_seq ?_
  refine region_seq hS (by kernel_rfl)
    (cF rfl (o_lss .t .t) r2 trivial
    Chain.nil)
    (by kernel_rfl) (by rw [hB]; kernel_rfl) ?_
  clear hS; intro a w F hS
  obtain ⟨F, hS⟩ := hS.norm [(1, _), (4, _), (5, _), (6, _), (7, _), (10, _), (11, _), (12, _), (13, _)] [(0, _), (50, _)] ⟨rfl, rfl, rfl, rfl, rfl, rfl, rfl, rfl, rfl, trivial⟩ r2
  try dsimp only [rPair] at hS
  refine then_n ?_
  refine wp_seq ?_
  refine cond_b hS rfl (fun hc0 => ?_) (fun hc0 => ?_)
  ·skip
   have hil : i < l.length := by simp at hc0; omega
   refine wp_skip ?_
   refine then_n ?_
   refine wp_seq ?_
   refine wp_block ?_
   refine wp_seq ?_
   refine region_seq hS (by kernel_rfl)
     (cF rfl (o_indexAddr_sl (sz := 2) (.mk Tryd.underlying26 (by kernel_rfl)) (by intro x; rfl) .t .t (by first | assumption | omega) (by first | assumption | omega)) r2 trivial
     (cF rfl (o_load_ref (ag := true) (sz := 2) .t (by kernel_rfl) (by kernel_rfl) (by kernel_rfl)) r1 trivial
     (cF rfl (o_alloc (zs := [.int .i64 0, .int .i64 0]) 101 (by kernel_rfl)) trivial trivial
     (cF rfl (o_storeA (sz := 2) 101 .same .t (by kernel_rfl) (by kernel_rfl) (by kernel_rfl)) r2 r1
     Chain.nil))))
     (by kernel_rfl) (by rw [hB]; kernel_rfl) ?_
   clear hS; intro a w F hS
   replace hS := hS.sub
   obtain ⟨F, hS⟩ := hS.norm [(1, _), (4, _), (5, _), (6, _), (7, _), (9, _), (10, _), (11, _), (12, _), (13, _), (14, _), (15, _)] [(0, _), (50, _), (101, _)] ⟨rfl, rfl, rfl, rfl, rfl, rfl, rfl, rfl, rfl, rfl, rfl, rfl, trivial⟩ r3
   try dsimp only [RS.sub, SF.sub, CF.sub, csub, Anc.sub, List.map, stCells, List.length_cons, List.length_nil, Nat.reduceAdd, List.drop_succ_cons, List.drop_zero, List.drop_nil, List.take_succ_cons, List.take_zero, List.take_nil, List.cons_append, List.nil_append, zCF, ldSF, rPair] at hS
   generalize Act.tau a 9 = v9 at hS
   try simp only [Int.toNat_natCast] at hS
   refine then_n ?_
   refine wp_seq ?_
   refine region_seq hS (by kernel_rfl)
     (cF rfl (o_fieldAddr (off := 0) 101 .is (by kernel_rfl) (by rfl)) r1 r1
     (cF rfl (o_load (ag := false) (sz := 1) 101 .adr (by kernel_rfl) (by kernel_rfl) (by kernel_rfl) (by rfl)) r1 r1
     (cF rfl (o_move .t (by rfl)) r1 trivial
     (cF rfl (o_eql .t .t) r2 trivial
     Chain.nil))))
     (by kernel_rfl) (by rw [hB]; kernel_rfl) ?_
   clear hS; intro a w F hS
   obtain ⟨F, hS⟩ := hS.norm [(1, _), (4, _), (5, _), (6, _), (7, _), (9, _), (10, _), (11, _), (12, _), (13, _), (14, _), (15, _), (16, _), (17, _), (18, _), (19, _)] [(0, _), (50, _), (101, _)] ⟨rfl, rfl, rfl, rfl, rfl, rfl, rfl, rfl, rfl, rfl, rfl, rfl, rfl, rfl, rfl, rfl, trivial⟩ r3
   try dsimp only [List.map, List.drop_succ_cons, List.drop_zero, List.drop_nil, List.take_succ_cons, List.take_zero, List.take_nil, ldSF, rPair] at hS
   refine then_n ?_
   refine cond_b hS rfl (fun hc1 => ?_) (fun hc1 => ?_)
   ·skip
    have hBq : (Go.Gm.nth l i).key = k := by simpa using hc1
    refine region_seq hS (by kernel_rfl)
      (cF rfl (o_assign .cb (by rfl)) trivial trivial
      Chain.nil)
      (by kernel_rfl) (by rw [hB]; kernel_rfl) ?_
    clear hS; intro a w F hS
    obtain ⟨F, hS⟩ := hS.norm [(1, _), (4, _), (5, _), (6, _), (7, _), (9, _), (10, _), (11, _), (12, _), (13, _), (14, _), (15, _), (16, _), (17, _), (18, _), (19, _)] [(0, _), (50, _), (101, _)] ⟨rfl, rfl, rfl, rfl, rfl, rfl, rfl, rfl, rfl, rfl, rfl, rfl, rfl, rfl, rfl, rfl, trivial⟩ r3
    try dsimp only [rPair] at hS
    refine block_n ?_
    refine then_n ?_
    refine region_seq hS (by kernel_rfl)
      (cF rfl (o_add .t (.ci (by kernel_rfl))) r1 trivial
      (cF rfl (o_move .t (by rfl)) r1 trivial
      Chain.nil))
      (by kernel_rfl) (by rw [hB]; kernel_rfl) ?_
    clear hS; intro a w F hS
    obtain ⟨F, hS⟩ := hS.norm [(1, _), (4, _), (5, _), (6, _), (7, _), (9, _), (10, _), (11, _), (12, _), (13, _), (14, _), (15, _), (16, _), (17, _), (18, _), (19, _), (24, _)] [(0, _), (50, _), (101, _)] ⟨rfl, rfl, rfl, rfl, rfl, rfl, rfl, rfl, rfl, rfl, rfl, rfl, rfl, rfl, rfl, rfl, rfl, trivial⟩ r3
    try dsimp only [rPair] at hS
    refine then_n ?_
    replace hS := hS.ent (i := 12) (s' := .pv (.int .i64 ((i + 1 : Nat) : Int))) rfl (.int (wrap_succ (by omega)))
    replace hS := hS.ent (i := 7) (s' := .pv (.bool (hasP (l.take (i + 1)) k))) rfl (.bool (by unfold hasP; rw [take_nth hil, List.any_append]; simp [hBq]))
    obtain ⟨F, hS⟩ := hS.norm [(12, _), (7, _), (6, _), (1, _), (4, _), (5, _), (10, _), (11, _)] [(50, _), (0, _)] ⟨rfl, rfl, rfl, rfl, rfl, rfl, rfl, rfl, trivial⟩ ⟨rfl, rfl, trivial⟩
    exact ⟨((i + 1), _, _), F, ⟨by omega, (by unfold delP at hq ⊢; rw [take_nth hil, List.filter_append, ← hq]; simp [hBq])⟩, hS, by omega⟩
   ·skip
    have hBq : ¬ (Go.Gm.nth l i).key = k := by simpa using hc1
    refine region_seq hS (by kernel_rfl)
      (cF rfl (o_move .t (by rfl)) r1 trivial
      (cF rfl (o_load (ag := true) (sz := 2) 101 .is (by kernel_rfl) (by kernel_rfl) (by kernel_rfl) (by rfl)) r1 r1
      (cF rfl (o_buildSliceE (sz := 2) (zs := [.int .i64 0, .int .i64 0]) (r := [(0, .tmp 21)]) (l := [_, _]) Tryd.underlying26 (by kernel_rfl) (by kernel_rfl) (by kernel_rfl) (by kernel_rfl) rfl rfl (.agg rfl .t (by kernel_rfl) (by kernel_rfl) .nil) rfl) r1 trivial
      (cF rfl (o_append (sz := 2) (bs := 16) 50 (.mk' Tryd.underlying26 (by kernel_rfl) (by kernel_rfl)) (by intro x; rfl) .is (.arr (l' := [_]) .t) (by simp only [List.length_append, List.length_cons, List.length_nil]; omega) (by decide)) ⟨rfl, rfl, trivial⟩ ⟨rfl, trivial⟩
      (cF rfl (o_assign .t (by rfl)) r1 trivial
      Chain.nil)))))
      (by kernel_rfl) (by rw [hB]; kernel_rfl) ?_
    clear hS; intro a w F hS
    replace hS := hS.sub
    obtain ⟨F, hS⟩ := hS.norm [(1, _), (4, _), (5, _), (6, _), (7, _), (9, _), (10, _), (11, _), (12, _), (13, _), (14, _), (15, _), (16, _), (17, _), (18, _), (19, _), (20, _), (21, _), (22, _), (23, _)] [(0, _), (50, _), (101, _)] ⟨rfl, rfl, rfl, rfl, rfl, rfl, rfl, rfl, rfl, rfl, rfl, rfl, rfl, rfl, rfl, rfl, rfl, rfl, rfl, rfl, trivial⟩ r3
    try dsimp only [RS.sub, SF.sub, CF.sub, csub, Anc.sub, List.map, stCells, List.length_cons, List.length_nil, Nat.reduceAdd, List.drop_succ_cons, List.drop_zero, List.drop_nil, List.take_succ_cons, List.take_zero, List.take_nil, List.cons_append, List.nil_append, zCF, ldSF, rPair] at hS
    generalize Act.tau a 23 = v23 at hS
    refine block_n ?_
    refine then_n ?_
    refine region_seq hS (by kernel_rfl)
      (cF rfl (o_add .t (.ci (by kernel_rfl))) r1 trivial
      (cF rfl (o_move .t (by rfl)) r1 trivial
      Chain.nil))
      (by kernel_rfl) (by rw [hB]; kernel_rfl) ?_
    clear hS; intro a w F hS
    obtain ⟨F, hS⟩ := hS.norm [(1, _), (4, _), (5, _), (6, _), (7, _), (9, _), (10, _), (11, _), (12, _), (13, _), (14, _), (15, _), (16, _), (17, _), (18, _), (19, _), (20, _), (21, _), (22, _), (23, _), (24, _)] [(0, _), (50, _), (101, _)] ⟨rfl, rfl, rfl, rfl, rfl, rfl, rfl, rfl, rfl, rfl, rfl, rfl, rfl, rfl, rfl, rfl, rfl, rfl, rfl, rfl, rfl, trivial⟩ r3
    try dsimp only [rPair] at hS
    refine then_n ?_
    replace hS := hS.ent (i := 12) (s' := .pv (.int .i64 ((i + 1 : Nat) : Int))) rfl (.int (wrap_succ (by omega)))
    replace hS := hS.ent (i := 7) (s' := .pv (.bool (hasP (l.take (i + 1)) k))) rfl (.bool (by unfold hasP; rw [take_nth hil, List.any_append]; simp [hBq]))
    obtain ⟨F, hS⟩ := hS.norm [(12, _), (7, _), (6, _), (1, _), (4, _), (5, _), (10, _), (11, _)] [(50, _), (0, _)] ⟨rfl, rfl, rfl, rfl, rfl, rfl, rfl, rfl, trivial⟩ ⟨rfl, rfl, trivial⟩
    exact ⟨((i + 1), _, _), F, ⟨by omega, (by unfold delP at hq ⊢; rw [take_nth hil, List.filter_append, ← hq]; simp [hBq])⟩, hS, by omega⟩
  ·skip
   have hil : i = l.length := by simp at hc0; omega
   refine wp_exit ?_
   refine then_x ?_
   refine then_x ?_
   refine block_x ?_
   refine then_n ?_
   refine wp_seq ?_
   refine region_seq hS (by kernel_rfl)
     (cF rfl (o_move .t (by rfl)) r1 trivial
     (cF rfl (o_move .t (by rfl)) r1 trivial
     (cF rfl (o_assign .t (by rfl)) r1 trivial
     (cF rfl (o_assign .t (by rfl)) r1 trivial
     Chain.nil))))
     (by kernel_rfl) (by rw [hB]; kernel_rfl) ?_
   clear hS; intro a w F hS
   obtain ⟨F, hS⟩ := hS.norm [(4, _), (5, _)] [(0, _), (50, _)] r2 r2
   try dsimp only [rPair] at hS
   refine then_n ?_
   refine wp_ret ?_
   obtain ⟨F, hS⟩ := hS.give 50 4 rfl rfl
   refine ret_P hfr hS rfl (.tmp rfl (.tmp rfl .nil)) (.two (.sl (by rw [hq, hil, List.take_length])) (.bool (by rw [hil, List.take_length])))

theorem same06_c (x y : List PairD) : FnP Tryd.prog 23 [.sl rPair x, .sl rPair y] (.bool (decide (x = y))) := by
  refine FnP.mk Tryd.func23 rfl Tryd.ntmps23 rfl ?_
  intro B a w F hB hfr hS
  have hxl := Sat.lenSl hS (i := 0) rfl
  refine wp_seq ?_
  refine region_seq hS (by kernel_rfl)
    (cF rfl (o_assign .cb (by rfl)) trivial trivial
    Chain.nil)
    (by kernel_rfl) (by rw [hB]; kernel_rfl) ?_
  clear hS; intro a w F hS
  obtain ⟨F, hS⟩ := hS.norm [(0, _), (1, _), (4, _)] [(0, _)] r3 r1
  refine then_n ?_
  refine wp_seq ?_
  refine wp_seq ?_
  refine region_seq hS (by kernel_rfl)
    (cF rfl (o_move .t (by rfl)) r1 trivial
    (cF rfl (o_len_sl Tryd.underlying26 .t) r1 trivial
    (cF rfl (o_move .t (by rfl)) r1 trivial
    (cF rfl (o_len_sl Tryd.underlying26 .t) r1 trivial
    (cF rfl (o_neq .t .t) r2 trivial
    Chain.nil)))))
    (by kernel_rfl) (by rw [hB]; kernel_rfl) ?_
  clear hS; intro a w F hS
  obtain ⟨F, hS⟩ := hS.norm [(0, _), (1, _), (4, _), (10, _)] [(0, _)] r4 r1
  refine then_n ?_
  refine cond_b hS rfl (fun hc0 => ?_) (fun hc0 => ?_)
  ·skip
   have hg : false = decide (x = y) := by
     rw [eq_comm, decide_eq_false_iff_not]
     intro h
     subst h
     simp at hc0
   refine wp_seq ?_
   refine region_seq hS (by kernel_rfl)
     (cF rfl (o_assign .cb (by rfl)) trivial trivial
     Chain.nil)
     (by kernel_rfl) (by rw [hB]; kernel_rfl) ?_
   clear hS; intro a w F hS
   obtain ⟨F, hS⟩ := hS.norm [(0, _), (1, _), (4, _)] [(0, _)] r3 r1
   refine then_n ?_
   refine wp_ret ?_
   refine then_r ?_
   refine ret_P hfr hS rfl (.tmp rfl .nil) (.one (.bool hg))
  ·skip
   have hl : x.length = y.length := by simp at hc0; omega
   refine wp_skip ?_
   refine then_n ?_
   refine wp_seq ?_
   refine wp_seq ?_
   refine region_seq hS (by kernel_rfl)
     (cF rfl (o_move .t (by rfl)) r1 trivial
     (cF rfl (o_len_sl Tryd.underlying26 .t) r1 trivial
     (cF rfl (o_move (.ci (by kernel_rfl)) (by rfl)) trivial trivial
     Chain.nil)))
     (by kernel_rfl) (by rw [hB]; kernel_rfl) ?_
   clear hS; intro a w F hS
   obtain ⟨F, hS⟩ := hS.norm [(0, _), (1, _), (4, _), (12, _), (13, _)] [(0, _)] r5 r1
   refine then_n ?_
   refine wp_block ?_
   obtain ⟨F, hS⟩ := hS.norm [(0, _), (1, _), (12, _), (13, _)] [(0, _)] r4 r1
   refine loop_inv (σ := Nat) (fun s => (⟨[(0, .pv (.sl rPair x)), (1, .pv (.sl rPair y)), (12, .pv (.int .i64 x.length)), (13, .pv (.int .i64 s))], [(0, frame B)]⟩ : En)) (fun s => s ≤ x.length ∧ ∀ j, j < s → Go.Gm.nth x j = Go.Gm.nth y j) (fun s => x.length - s) 0 hS ⟨Nat.zero_le _, fun j hj => absurd hj (Nat.not_lt_zero j)⟩ ?_
   clear hS; intro i a w F hC hS
   try dsimp only at hC
   try dsimp only at hS
   obtain ⟨hi, hq⟩ := hC
   refine wp_seq ?_
   refine region_seq hS (by kernel_rfl)
     (cF rfl (o_lss .t .t) r2 trivial
     Chain.nil)
     (by kernel_rfl) (by rw [hB]; kernel_rfl) ?_
   clear hS; intro a w F hS
   obtain ⟨F, hS⟩ := hS.norm [(0, _), (1, _), (12, _), (13, _), (14, _)] [(0, _)] r5 r1
   refine then_n ?_
   refine wp_seq ?_
   refine cond_b hS rfl (fun hc1 => ?_) (fun hc1 => ?_)
   ·skip
    have hil : i < x.length := by simp at hc1; omega
    refine wp_skip ?_
    refine then_n ?_
    refine wp_seq ?_
    refine wp_block ?_
    refine wp_seq ?_
    refine region_seq hS (by kernel_rfl)
      (cF rfl (o_move .t (by rfl)) r1 trivial
      (cF rfl (o_assign .t (by rfl)) r1 trivial
      Chain.nil))
      (by kernel_rfl) (by rw [hB]; kernel_rfl) ?_
    clear hS; intro a w F hS
    obtain ⟨F, hS⟩ := hS.norm [(0, _), (1, _), (5, _), (12, _), (13, _), (14, _), (15, _)] [(0, _)] r7 r1
    refine then_n ?_
    refine wp_seq ?_
    refine region_any (by kernel_rfl) hS (by kernel_rfl)
      (cF rfl (o_move .t (by rfl)) r1 trivial
      (cF rfl (o_move .t (by rfl)) r1 trivial
      (cF rfl (o_indexAddr_sl (sz := 2) (.mk Tryd.underlying26 (by kernel_rfl)) (by intro x; rfl) .t .t (by omega) (by omega)) r2 trivial
      (cF rfl (o_load_ref (ag := true) (sz := 2) .t (by kernel_rfl) (by kernel_rfl) (by kernel_rfl)) r1 trivial
      (cF rfl (o_move .t (by rfl)) r1 trivial
      (cF rfl (o_move .t (by rfl)) r1 trivial
      (cF rfl (o_indexAddr_sl (sz := 2) (.mk Tryd.underlying26 (by kernel_rfl)) (by intro x; rfl) .t .t (by omega) (by omega)) r2 trivial
      (cF rfl (o_load_ref (ag := true) (sz := 2) .t (by kernel_rfl) (by kernel_rfl) (by kernel_rfl)) r1 trivial
      (cF rfl (o_neqS (ks := [true, true]) (by kernel_rfl) .t .t (.int (.int .nil))) r2 trivial
      Chain.nil)))))))))
      (by kernel_rfl) (by rw [hB]; kernel_rfl) ?_
    clear hS; intro a w F hS
    obtain ⟨F, hS⟩ := hS.norm [(0, _), (1, _), (5, _), (12, _), (13, _), (14, _), (15, _), (16, _), (17, _), (18, _), (19, _), (20, _), (21, _), (22, _), (23, _), (24, _)] [(0, _)] ⟨rfl, rfl, rfl, rfl, rfl, rfl, rfl, rfl, rfl, rfl, rfl, rfl, rfl, rfl, rfl, rfl, trivial⟩ r1
    try dsimp only [List.map, List.drop_succ_cons, List.drop_zero, List.drop_nil, List.take_succ_cons, List.take_zero, List.take_nil, ldSF] at hS
    refine then_n ?_
    refine cond_b hS rfl (fun hc2 => ?_) (fun hc2 => ?_)
    ·skip
     have hg : false = decide (x = y) := by
       rw [eq_comm, decide_eq_false_iff_not]
       intro h
       subst h
       simp at hc2
     refine wp_seq ?_
     refine region_seq hS (by kernel_rfl)
       (cF rfl (o_assign .cb (by rfl)) trivial trivial
       Chain.nil)
       (by kernel_rfl) (by rw [hB]; kernel_rfl) ?_
     clear hS; intro a w F hS
     obtain ⟨F, hS⟩ := hS.norm [(0, _), (1, _), (4, _), (5, _), (12, _), (13, _), (14, _), (15, _), (16, _), (17, _), (18, _), (19, _), (20, _), (21, _), (22, _), (23, _), (24, _)] [(0, _)] ⟨rfl, rfl, rfl, rfl, rfl, rfl, rfl, rfl, rfl, rfl, rfl, rfl, rfl, rfl, rfl, rfl, rfl, trivial⟩ r1
     refine then_n ?_
     refine wp_ret ?_
     refine block_r ?_
     refine then_r ?_
     refine then_r ?_
     refine block_r ?_
     refine then_r ?_
     refine ret_P hfr hS rfl (.tmp rfl .nil) (.one (.bool hg))
    ·skip
     rw [Int.toNat_natCast] at hc2
     have hqi : Go.Gm.nth x i = Go.Gm.nth y i := pairD_eq hc2
     refine wp_skip ?_
     refine block_n ?_
     refine then_n ?_
     refine region_seq hS (by kernel_rfl)
       (cF rfl (o_add .t (.ci (by kernel_rfl))) r1 trivial
       (cF rfl (o_move .t (by rfl)) r1 trivial
       Chain.nil))
       (by kernel_rfl) (by rw [hB]; kernel_rfl) ?_
     clear hS; intro a w F hS
     obtain ⟨F, hS⟩ := hS.norm [(0, _), (1, _), (5, _), (12, _), (13, _), (14, _), (15, _), (16, _), (17, _), (18, _), (19, _), (20, _), (21, _), (22, _), (23, _), (24, _), (25, _)] [(0, _)] ⟨rfl, rfl, rfl, rfl, rfl, rfl, rfl, rfl, rfl, rfl, rfl, rfl, rfl, rfl, rfl, rfl, rfl, trivial⟩ r1
     refine then_n ?_
     replace hS := hS.ent (i := 13) (s' := .pv (.int .i64 ((i + 1 : Nat) : Int))) rfl (.int (wrap_succ (by omega)))
     obtain ⟨F, hS⟩ := hS.norm [(0, _), (1, _), (12, _), (13, _)] [(0, _)] r4 r1
     exact ⟨i + 1, F, ⟨by omega, fun j hj => by rcases Nat.lt_or_eq_of_le (Nat.le_of_lt_succ hj) with h | h; exact hq j h; rw [h]; exact hqi⟩, hS, by omega⟩
   ·skip
    have hg : true = decide (x = y) := by
      rw [eq_comm, decide_eq_true_eq]
      exact list_same hl fun j hj => hq j (by simp at hc1; omega)
    refine wp_exit ?_
    refine then_x ?_
    refine then_x ?_
    refine block_x ?_
    refine then_n ?_
    refine wp_seq ?_
    refine region_seq hS (by kernel_rfl)
      (cF rfl (o_assign .cb (by rfl)) trivial trivial
      Chain.nil)
      (by kernel_rfl) (by rw [hB]; kernel_rfl) ?_
    clear hS; intro a w F hS
    obtain ⟨F, hS⟩ := hS.norm [(4, _)] [(0, _)] r1 r1
    refine then_n ?_
    refine wp_ret ?_
    refine ret_P hfr hS rfl (.tmp rfl .nil) (.one (.bool hg))

theorem refTake_c (q : List PairD) (room id : Int) (hl : q.length ≤ 1000000) : FnP Tryd.prog 15 [.sl rPair q, .int .i64 room, .int .i64 id] (.tup [.sl rPair (refTakeL q room id).1, .int .i64 (refTakeL q room id).2.1, .int .i64 (refTakeL q room id).2.2]) := by
  refine FnP.mk Tryd.func15 rfl Tryd.ntmps15 rfl ?_
  intro B a w F hB hfr hS
  refine wp_seq ?_
  refine region_seq hS (by kernel_rfl)
    (cF rfl (o_assign (.c rfl) (by rfl)) trivial trivial
    (cF rfl (o_assign (.ci (by kernel_rfl)) (by rfl)) trivial trivial
    (cF rfl (o_assign (.ci (by kernel_rfl)) (by rfl)) trivial trivial
    Chain.nil)))
    (by kernel_rfl) (by rw [hB]; kernel_rfl) ?_
  clear hS; intro a w F hS
  obtain ⟨F, hS⟩ := hS.norm [(0, _), (1, _), (2, _), (6, _), (7, _), (8, _)] [(0, _)] r6 r1
  try dsimp only [rPair] at hS
  refine then_n ?_
  refine wp_seq ?_
  refine wp_seq ?_
  refine region_seq hS (by kernel_rfl)
    (cF rfl (o_move .t (by rfl)) r1 trivial
    (cF rfl (o_callP (id02_c id) Tryd.func58 rfl (by kernel_rfl) (Args.one .t)) r1 trivial
    (cF rfl (o_not .t) r1 trivial
    Chain.nil)))
    (by kernel_rfl) (by rw [hB]; kernel_rfl) ?_
  clear hS; intro a w F hS
  obtain ⟨F, hS⟩ := hS.norm [(0, _), (1, _), (2, _), (6, _), (7, _), (8, _), (12, _)] [(0, _)] r7 r1
  try dsimp only [rPair] at hS
  refine then_n ?_
  refine cond_b hS rfl (fun hc0 => ?_) (fun hc0 => ?_)
  ·skip
   have ht : refTakeL q room id = (q, 0, 1) := if_pos (by simp at hc0; omega)
   refine wp_seq ?_
   refine region_seq hS (by kernel_rfl)
     (cF rfl (o_move .t (by rfl)) r1 trivial
     (cF rfl (o_assign .t (by rfl)) r1 trivial
     (cF rfl (o_assign (.ci (by kernel_rfl)) (by rfl)) trivial trivial
     (cF rfl (o_assign (.ci (by kernel_rfl)) (by rfl)) trivial trivial
     Chain.nil))))
     (by kernel_rfl) (by rw [hB]; kernel_rfl) ?_
   clear hS; intro a w F hS
   obtain ⟨F, hS⟩ := hS.norm [(0, _), (1, _), (2, _), (6, _), (7, _), (8, _)] [(0, _)] r6 r1
   try dsimp only [rPair] at hS
   refine then_n ?_
   refine wp_ret ?_
   refine then_r ?_
   refine ret_P hfr hS rfl (.tmp rfl (.tmp rfl (.tmp rfl .nil))) (.three (.sl (by rw [ht])) (.int (by rw [ht])) (.int (by rw [ht])))
  ·skip
   have hid : 1 ≤ id ∧ id ≤ 1048575 := by simp at hc0; omega
   refine wp_skip ?_
   refine then_n ?_
   refine wp_seq ?_
   refine wp_seq ?_
   refine region_seq hS (by kernel_rfl)
     (cF rfl (o_move .t (by rfl)) r1 trivial
     (cF rfl (o_move .t (by rfl)) r1 trivial
     (cF rfl (o_callP (refSlot21_c q id) Tryd.func12 rfl (by kernel_rfl) (Args.two .t .t)) r2 trivial
     (cF rfl (o_geq .t (.ci (by kernel_rfl))) r1 trivial
     Chain.nil))))
     (by kernel_rfl) (by rw [hB]; kernel_rfl) ?_
   clear hS; intro a w F hS
   obtain ⟨F, hS⟩ := hS.norm [(0, _), (1, _), (2, _), (6, _), (7, _), (8, _), (17, _)] [(0, _)] r7 r1
   try dsimp only [rPair] at hS
   refine then_n ?_
   refine cond_b hS rfl (fun hc1 => ?_) (fun hc1 => ?_)
   ·skip
    have ht : refTakeL q room id = (q, 0, 4) := by unfold refTakeL; rw [if_neg (fun h => h hid), if_pos (by simpa using hc1)]
    refine wp_seq ?_
    refine region_seq hS (by kernel_rfl)
      (cF rfl (o_move .t (by rfl)) r1 trivial
      (cF rfl (o_assign .t (by rfl)) r1 trivial
      (cF rfl (o_assign (.ci (by kernel_rfl)) (by rfl)) trivial trivial
      (cF rfl (o_assign (.ci (by kernel_rfl)) (by rfl)) trivial trivial
      Chain.nil))))
      (by kernel_rfl) (by rw [hB]; kernel_rfl) ?_
    clear hS; intro a w F hS
    obtain ⟨F, hS⟩ := hS.norm [(0, _), (1, _), (2, _), (6, _), (7, _), (8, _)] [(0, _)] r6 r1
    try dsimp only [rPair] at hS
    refine then_n ?_
    refine wp_ret ?_
    refine then_r ?_
    refine ret_P hfr hS rfl (.tmp rfl (.tmp rfl (.tmp rfl .nil))) (.three (.sl (by rw [ht])) (.int (by rw [ht])) (.int (by rw [ht])))
   ·skip
    have hsl : ¬ 0 ≤ slotL q id := by simpa using hc1
    refine wp_skip ?_
    refine then_n ?_
    refine wp_seq ?_
    refine wp_seq ?_
    refine region_seq hS (by kernel_rfl)
      (cF rfl (o_assign (.ci (by kernel_rfl)) (by rfl)) trivial trivial
      Chain.nil)
      (by kernel_rfl) (by rw [hB]; kernel_rfl) ?_
    clear hS; intro a w F hS
    obtain ⟨F, hS⟩ := hS.norm [(0, _), (1, _), (2, _), (6, _), (7, _), (8, _), (9, _)] [(0, _)] r7 r1
    try dsimp only [rPair] at hS
    refine then_n ?_
    refine wp_block ?_
    refine loop_keep (σ := Nat) [0, 1, 2, 6, 7, 8] [0] (fun s => [(9, .pv (.int .i64 (s : Int)))]) (fun s => []) (fun s => s ≤ roomN room ∧ ∀ j, j < s → idL q (j : Int) ≠ 0) (fun s => roomN room - s) (0) hS ⟨rfl, rfl, rfl, rfl, rfl, rfl, rfl, trivial⟩ ⟨rfl, trivial⟩ ⟨Nat.zero_le _, fun j hj => absurd hj (Nat.not_lt_zero j)⟩ ?_
    clear hS; intro i a w F hC hS
    try dsimp only at hC
    obtain ⟨F, hS⟩ := hS.norm [(0, _), (1, _), (2, _), (6, _), (7, _), (8, _), (9, _)] [(0, _)] r7 r1
    try dsimp only at hS
    obtain ⟨hi, hq⟩ := hC
    have hrl := roomN_le room
    refine wp_seq ?_
    refine wp_seq ?_
    refine region_seq hS (by kernel_rfl)
      (cF rfl (o_move .t (by rfl)) r1 trivial
      (cF rfl (o_move .t (by rfl)) r1 trivial
      (cF rfl (o_callP (room21_c room) Tryd.func22 rfl (by kernel_rfl) (Args.one .t)) r1 trivial
      (cF rfl (o_lss .t .t) r2 trivial
      Chain.nil))))
      (by kernel_rfl) (by rw [hB]; kernel_rfl) ?_
    clear hS; intro a w F hS
    obtain ⟨F, hS⟩ := hS.norm [(0, _), (1, _), (2, _), (6, _), (7, _), (8, _), (9, _), (19, _), (20, _), (21, _), (22, _)] [(0, _)] ⟨rfl, rfl, rfl, rfl, rfl, rfl, rfl, rfl, rfl, rfl, rfl, trivial⟩ r1
    try dsimp only [rPair] at hS
    refine then_n ?_
    refine cond_b hS rfl (fun hc2 => ?_) (fun hc2 => ?_)
    ·skip
     have hil : i < roomN room := by simp at hc2; omega
     refine wp_skip ?_
     refine then_n ?_
     refine wp_seq ?_
     refine wp_block ?_
     refine wp_seq ?_
     refine region_seq hS (by kernel_rfl)
       (cF rfl (o_move .t (by rfl)) r1 trivial
       (cF rfl (o_move .t (by rfl)) r1 trivial
       (cF rfl (o_callP (refId21_c q (i : Int)) Tryd.func19 rfl (by kernel_rfl) (Args.two .t .t)) r2 trivial
       (cF rfl (o_eql .t (.ci (by kernel_rfl))) r1 trivial
       Chain.nil))))
       (by kernel_rfl) (by rw [hB]; kernel_rfl) ?_
     clear hS; intro a w F hS
     obtain ⟨F, hS⟩ := hS.norm [(0, _), (1, _), (2, _), (6, _), (7, _), (8, _), (9, _), (19, _), (20, _), (21, _), (22, _), (25, _), (26, _), (27, _), (28, _)] [(0, _)] ⟨rfl, rfl, rfl, rfl, rfl, rfl, rfl, rfl, rfl, rfl, rfl, rfl, rfl, rfl, rfl, trivial⟩ r1
     try dsimp only [rPair] at hS
     refine then_n ?_
     refine cond_b hS rfl (fun hc3 => ?_) (fun hc3 => ?_)
     ·skip
      have hBq : idL q (i : Int) = 0 := by simpa using hc3
      have ht : refTakeL q room id = (putP q (i : Int) id, (i : Int), 0) := by
        unfold refTakeL
        rw [if_neg (fun h => h hid), if_neg hsl, List.find?_range_eq_some.2 ⟨by simpa using hBq, by rw [List.mem_range]; exact hil, fun j hj => by simpa using hq j hj⟩]
      refine wp_seq ?_
      refine region_seq hS (by kernel_rfl)
        (cF rfl (o_move .t (by rfl)) r1 trivial
        (cF rfl (o_move .t (by rfl)) r1 trivial
        (cF rfl (o_move .t (by rfl)) r1 trivial
        (cF rfl (o_callP (put06_c q (i : Int) id hl) Tryd.func59 rfl (by kernel_rfl) (Args.three .t .t .t)) r3 trivial
        (cF rfl (o_move .t (by rfl)) r1 trivial
        (cF rfl (o_assign .t (by rfl)) r1 trivial
        (cF rfl (o_assign .t (by rfl)) r1 trivial
        (cF rfl (o_assign (.ci (by kernel_rfl)) (by rfl)) trivial trivial
        Chain.nil))))))))
        (by kernel_rfl) (by rw [hB]; kernel_rfl) ?_
      clear hS; intro a w F hS
      obtain ⟨F, hS⟩ := hS.norm [(0, _), (1, _), (2, _), (6, _), (7, _), (8, _), (9, _), (19, _), (20, _), (21, _), (22, _), (25, _), (26, _), (27, _), (28, _), (29, _), (30, _), (31, _), (32, _), (33, _)] [(0, _)] ⟨rfl, rfl, rfl, rfl, rfl, rfl, rfl, rfl, rfl, rfl, rfl, rfl, rfl, rfl, rfl, rfl, rfl, rfl, rfl, rfl, trivial⟩ r1
      try dsimp only [rPair] at hS
      refine then_n ?_
      refine wp_ret ?_
      refine block_r ?_
      refine then_r ?_
      refine then_r ?_
      refine block_r ?_
      refine then_r ?_
      refine ret_P hfr hS rfl (.tmp rfl (.tmp rfl (.tmp rfl .nil))) (.three (.sl (by rw [ht])) (.int (by rw [ht])) (.int (by rw [ht])))
     ·skip
      have hBq : idL q (i : Int) ≠ 0 := by simpa using hc3
      refine wp_skip ?_
      refine block_n ?_
      refine then_n ?_
      refine region_seq hS (by kernel_rfl)
        (cF rfl (o_move .t (by rfl)) r1 trivial
        (cF rfl (o_add .t (.ci (by kernel_rfl))) r1 trivial
        (cF rfl (o_assign .t (by rfl)) r1 trivial
        Chain.nil)))
        (by kernel_rfl) (by rw [hB]; kernel_rfl) ?_
      clear hS; intro a w F hS
      obtain ⟨F, hS⟩ := hS.norm [(0, _), (1, _), (2, _), (6, _), (7, _), (8, _), (9, _), (19, _), (20, _), (21, _), (22, _), (23, _), (24, _), (25, _), (26, _), (27, _), (28, _)] [(0, _)] ⟨rfl, rfl, rfl, rfl, rfl, rfl, rfl, rfl, rfl, rfl, rfl, rfl, rfl, rfl, rfl, rfl, rfl, trivial⟩ r1
      try dsimp only [rPair] at hS
      refine then_n ?_
      replace hS := hS.ent (i := 9) (s' := .pv (.int .i64 ((i + 1 : Nat) : Int))) rfl (.int (wrap_succ (by omega)))
      obtain ⟨F, hS⟩ := hS.norm [(9, _), (0, _), (1, _), (2, _), (6, _), (7, _), (8, _)] [(0, _)] ⟨rfl, rfl, rfl, rfl, rfl, rfl, rfl, trivial⟩ ⟨rfl, trivial⟩
      exact ⟨(i + 1), F, ⟨by omega, fun j hj => by rcases Nat.lt_or_eq_of_le (Nat.le_of_lt_succ hj) with h | h; exact hq j h; rw [h]; exact hBq⟩, hS, (by show _ - (i + 1) < _ - i; omega)⟩
    ·skip
     have hil : i = roomN room := by simp at hc2; omega
     have ht : refTakeL q room id = (q, 0, 2) := by
       unfold refTakeL
       rw [if_neg (fun h => h hid), if_neg hsl, List.find?_eq_none.2 fun j hj => by rw [List.mem_range] at hj; simpa using hq j (by omega)]
     refine wp_exit ?_
     refine then_x ?_
     refine then_x ?_
     refine block_x ?_
     refine then_n ?_
     refine wp_seq ?_
     refine region_seq hS (by kernel_rfl)
       (cF rfl (o_move .t (by rfl)) r1 trivial
       (cF rfl (o_assign .t (by rfl)) r1 trivial
       (cF rfl (o_assign (.ci (by kernel_rfl)) (by rfl)) trivial trivial
       (cF rfl (o_assign (.ci (by kernel_rfl)) (by rfl)) trivial trivial
       Chain.nil))))
       (by kernel_rfl) (by rw [hB]; kernel_rfl) ?_
     clear hS; intro a w F hS
     obtain ⟨F, hS⟩ := hS.norm [(6, _), (7, _), (8, _)] [(0, _)] r3 r1
     try dsimp only [rPair] at hS
     refine then_n ?_
     refine wp_ret ?_
     refine ret_P hfr hS rfl (.tmp rfl (.tmp rfl (.tmp rfl .nil))) (.three (.sl (by rw [ht])) (.int (by rw [ht])) (.int (by rw [ht])))

end Go.Proofs.YtdfpljecogijaaaDoor
