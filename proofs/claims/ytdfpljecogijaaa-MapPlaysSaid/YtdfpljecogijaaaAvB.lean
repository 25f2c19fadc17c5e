/- Maps against the document. No condition beyond those that each theorem says. -/
import Derived.Test.YtdfpljecogijaaaAv6
namespace Go.Proofs.Ytdfpljecogijaaa
open Go Go.Gm
set_option linter.unusedVariables false
set_option linter.unusedSimpArgs false
set_option maxHeartbeats 4000000
set_option maxRecDepth 8000


def getL (k : Int) : List PairD → Int × Bool
  | [] => (0, false)
  | p :: l => if p.key = k then (p.val, true) else getL k l
def rankL (k : Int) : List PairD → Int
  | [] => 0
  | p :: l => (if p.key < k then 1 else 0) + rankL k l
theorem rankL_snoc (k : Int) (p : PairD) : ∀ l : List PairD, rankL k (l ++ [p]) = rankL k l + if p.key < k then 1 else 0
  | [] => by simp [rankL]
  | x :: l => by rw [List.cons_append, rankL, rankL_snoc k p l, rankL]; omega
theorem rankL_in (k : Int) : ∀ l : List PairD, 0 ≤ rankL k l ∧ rankL k l ≤ l.length
  | [] => ⟨Int.le_refl _, Int.le_refl _⟩
  | p :: l => by have := rankL_in k l; rw [rankL, List.length_cons]; split <;> omega
theorem rankL_app (k : Int) (m : List PairD) : ∀ l : List PairD, rankL k (l ++ m) = rankL k l + rankL k m
  | [] => by simp [rankL]
  | p :: l => by rw [List.cons_append, rankL, rankL_app k m l, rankL]; omega
theorem rankL_all {k : Int} : ∀ {l : List PairD}, (∀ p ∈ l, p.key < k) → rankL k l = l.length
  | [], _ => rfl
  | p :: l, h => by rw [rankL, if_pos (h p (by simp)), rankL_all fun x hx => h x (by simp [hx]), List.length_cons]; omega
theorem rankL_none {k : Int} : ∀ {l : List PairD}, (∀ p ∈ l, k ≤ p.key) → rankL k l = 0
  | [], _ => rfl
  | p :: l, h => by rw [rankL, if_neg (by have := h p (by simp); omega), rankL_none fun x hx => h x (by simp [hx])]; omega
theorem rankT_list (k : Int) : ∀ {t : Tree}, Inc (tList t) → rankT k t = rankL k (tList t)
  | .nil, _ => rfl
  | .node l p r, h => by
    obtain ⟨h1, h2, h3, h4⟩ := Inc.parts h
    show _ = rankL k (tList l ++ p :: tList r)
    rw [rankL_app, rankL]
    unfold rankT
    split
    · rename_i hk
      rw [rankT_list k h1, if_neg (by omega), rankL_none (l := tList r) fun x hx => by have := h4 x hx; omega]; omega
    · rename_i hk
      rw [rankT_list k h2, if_pos (by omega), rankL_all (l := tList l) fun x hx => by have := h3 x hx; omega, tSize_list]; omega
theorem getL_app_none {k : Int} {m : List PairD} : ∀ {l : List PairD}, (∀ p ∈ l, p.key ≠ k) → getL k (l ++ m) = getL k m
  | [], _ => rfl
  | p :: l, h => by rw [List.cons_append, getL, if_neg (h p (by simp)), getL_app_none fun x hx => h x (by simp [hx])]
theorem getL_none {k : Int} {l : List PairD} (h : ∀ p ∈ l, p.key ≠ k) : getL k l = (0, false) := by
  have := getL_app_none (m := []) h
  rwa [List.append_nil] at this
theorem getL_app_hi {k : Int} {m : List PairD} (hm : ∀ p ∈ m, p.key ≠ k) : ∀ l : List PairD, getL k (l ++ m) = getL k l
  | [] => getL_none hm
  | p :: l => by rw [List.cons_append, getL, getL, getL_app_hi hm l]
theorem lookT_list (k : Int) : ∀ {t : Tree}, Inc (tList t) → lookT k t = getL k (tList t)
  | .nil, _ => rfl
  | .node l p r, h => by
    obtain ⟨h1, h2, h3, h4⟩ := Inc.parts h
    show _ = getL k (tList l ++ p :: tList r)
    unfold lookT
    split
    · rename_i hk
      rw [lookT_list k h1, getL_app_hi fun x hx => by
        rcases List.mem_cons.1 hx with rfl | hx
        · omega
        · have := h4 x hx; omega]
    · rename_i hk
      rw [getL_app_none fun x hx => by have := h3 x hx; omega, getL]
      split
      · rw [if_neg (by omega), lookT_list k h2]
      · rw [if_pos (by omega)]
theorem atT_list : ∀ {t : Tree} {j : Int}, 0 ≤ j → j < tSize t → atT j t = Go.Gm.nth (tList t) j.toNat
  | .nil, j, h1, h2 => by have : tSize Tree.nil = 0 := rfl; omega
  | .node l p r, j, h1, h2 => by
    have e : tSize (.node l p r) = tSize l + tSize r + 1 := rfl
    have el := tSize_list l
    have er := tSize_list r
    have et := tSize_list (.node l p r)
    have eL : tList (.node l p r) = tList l ++ p :: tList r := rfl
    rw [nth_eq (show j.toNat < (tList (.node l p r)).length by omega)]
    simp only [eL]
    unfold atT
    split
    · rename_i h
      rw [atT_list h1 h, nth_eq (by omega), List.getElem_append_left]
    · split
      · rename_i h3 h4
        rw [List.getElem_append_right (by omega)]
        simp [show j.toNat - (tList l).length = 0 by omega]
      · rename_i h3 h4
        rw [atT_list (by omega) (by omega), nth_eq (by omega), List.getElem_append_right (by omega)]
        simp only [show j.toNat - (tList l).length = (j - tSize l - 1).toNat + 1 by omega, List.getElem_cons_succ]

theorem get06_c (l : List PairD) (k : Int) : FnP Try.prog 57 [.sl rPair l, .int .i64 k] (.tup [.int .i64 (getL k l).1, .bool (getL k l).2]) := by
  refine FnP.mk Try.func57 rfl Try.ntmps57 rfl ?_
  intro B a w F hB hfr hS
  have hll := Sat.lenSl hS (i := 0) rfl
  refine wp_seq ?_
  refine region_seq hS (by kernel_rfl)
    (cF rfl (o_assign (.ci (by kernel_rfl)) (by rfl)) trivial trivial
    (cF rfl (o_assign .cb (by rfl)) trivial trivial
    Chain.nil))
    (by kernel_rfl) (by rw [hB]; kernel_rfl) ?_
  clear hS; intro a w F hS
  obtain ⟨F, hS⟩ := hS.norm [(0, _), (1, _), (4, _), (5, _)] [(0, _)] r4 r1
  try dsimp only [rPair] at hS
  refine then_n ?_
  refine wp_seq ?_
  refine wp_seq ?_
  refine region_seq hS (by kernel_rfl)
    (cF rfl (o_move .t (by rfl)) r1 trivial
    (cF rfl (o_len_sl Try.underlying55 .t) r1 trivial
    (cF rfl (o_move (.ci (by kernel_rfl)) (by rfl)) trivial trivial
    Chain.nil)))
    (by kernel_rfl) (by rw [hB]; kernel_rfl) ?_
  clear hS; intro a w F hS
  obtain ⟨F, hS⟩ := hS.norm [(1, _), (4, _), (5, _), (8, _), (9, _), (10, _)] [(0, _)] r6 r1
  try dsimp only [rPair] at hS
  refine then_n ?_
  refine wp_block ?_
  refine loop_keep (σ := (Nat)) [1, 4, 5, 8, 9] [0] (fun s => [(10, .pv (.int .i64 (s : Int)))]) (fun s => []) (fun s => s ≤ l.length ∧ (getL k (l.drop s) = getL k l)) (fun s => l.length - s) (0) hS ⟨rfl, rfl, rfl, rfl, rfl, rfl, trivial⟩ ⟨rfl, trivial⟩ ⟨Nat.zero_le _, rfl⟩ ?_
  clear hS; intro i a w F hC hS
  try dsimp only at hC
  obtain ⟨F, hS⟩ := hS.norm [(1, _), (4, _), (5, _), (8, _), (9, _), (10, _)] [(0, _)] r6 r1
  try dsimp only at hS
  obtain ⟨hi, hq⟩ := hC
  refine wp_seq ?_
  refine region_seq hS (by kernel_rfl)
    (cF rfl (o_lss .t .t) r2 trivial
    Chain.nil)
    (by kernel_rfl) (by rw [hB]; kernel_rfl) ?_
  clear hS; intro a w F hS
  obtain ⟨F, hS⟩ := hS.norm [(1, _), (4, _), (5, _), (8, _), (9, _), (10, _), (11, _)] [(0, _)] r7 r1
  try dsimp only [rPair] at hS
  refine then_n ?_
  refine wp_seq ?_
  refine cond_b hS rfl (fun hc0 => ?_) (fun hc0 => ?_)
  ·skip
   have hil : i < l.length := by simp at hc0; omega
   refine wp_skip ?_
   refine then_n ?_
   refine wp_seq ?_
   refine wp_block ?_
   refine wp_seq ?_
   refine region_seq hS (by kernel_rfl)
     (cF rfl (o_indexAddr_sl (sz := 2) (.mk Try.underlying55 (by kernel_rfl)) (by intro x; rfl) .t .t (by first | assumption | omega) (by first | assumption | omega)) r2 trivial
     (cF rfl (o_load_ref (ag := true) (sz := 2) .t (by kernel_rfl) (by kernel_rfl) (by kernel_rfl)) r1 trivial
     (cF rfl (o_alloc (zs := [.int .i64 0, .int .i64 0]) 101 (by kernel_rfl)) trivial trivial
     (cF rfl (o_storeA (sz := 2) 101 .same .t (by kernel_rfl) (by kernel_rfl) (by kernel_rfl)) r2 r1
     Chain.nil))))
     (by kernel_rfl) (by rw [hB]; kernel_rfl) ?_
   clear hS; intro a w F hS
   replace hS := hS.sub
   obtain ⟨F, hS⟩ := hS.norm [(1, _), (4, _), (5, _), (7, _), (8, _), (9, _), (10, _), (11, _), (12, _), (13, _)] [(0, _), (101, _)] ⟨rfl, rfl, rfl, rfl, rfl, rfl, rfl, rfl, rfl, rfl, trivial⟩ r2
   try dsimp only [RS.sub, SF.sub, CF.sub, csub, Anc.sub, List.map, stCells, List.length_cons, List.length_nil, Nat.reduceAdd, List.drop_succ_cons, List.drop_zero, List.drop_nil, List.take_succ_cons, List.take_zero, List.take_nil, List.cons_append, List.nil_append, zCF, ldSF, rPair] at hS
   generalize Act.tau a 7 = v7 at hS
   try simp only [Int.toNat_natCast] at hS
   refine then_n ?_
   refine wp_seq ?_
   refine region_seq hS (by kernel_rfl)
     (cF rfl (o_fieldAddr (off := 0) 101 .is (by kernel_rfl) (by rfl)) r1 r1
     (cF rfl (o_load (ag := false) (sz := 1) 101 .adr (by kernel_rfl) (by kernel_rfl) (by kernel_rfl) (by rfl)) r1 r1
     (cF rfl (o_move .t (by rfl)) r1 trivial
     (cF rfl (o_eql .t .t) r2 trivial
     Chain.nil))))
     (by kernel_rfl) (by rw [hB]; kernel_rfl) ?_
   clear hS; intro a w F hS
   obtain ⟨F, hS⟩ := hS.norm [(1, _), (4, _), (5, _), (7, _), (8, _), (9, _), (10, _), (11, _), (12, _), (13, _), (14, _), (15, _), (16, _), (17, _)] [(0, _), (101, _)] ⟨rfl, rfl, rfl, rfl, rfl, rfl, rfl, rfl, rfl, rfl, rfl, rfl, rfl, rfl, trivial⟩ r2
   try dsimp only [List.map, List.drop_succ_cons, List.drop_zero, List.drop_nil, List.take_succ_cons, List.take_zero, List.take_nil, ldSF, rPair] at hS
   refine then_n ?_
   refine cond_b hS rfl (fun hc1 => ?_) (fun hc1 => ?_)
   ·skip
    have hg : getL k l = ((Go.Gm.nth l i).val, true) := by rw [← hq, drop_nth hil]; exact if_pos (by simpa using hc1)
    refine wp_seq ?_
    refine region_seq hS (by kernel_rfl)
      (cF rfl (o_fieldAddr (off := 1) 101 .is (by kernel_rfl) (by rfl)) r1 r1
      (cF rfl (o_load (ag := false) (sz := 1) 101 .adr (by kernel_rfl) (by kernel_rfl) (by kernel_rfl) (by rfl)) r1 r1
      (cF rfl (o_assign .t (by rfl)) r1 trivial
      (cF rfl (o_assign .cb (by rfl)) trivial trivial
      Chain.nil))))
      (by kernel_rfl) (by rw [hB]; kernel_rfl) ?_
    clear hS; intro a w F hS
    obtain ⟨F, hS⟩ := hS.norm [(1, _), (4, _), (5, _), (7, _), (8, _), (9, _), (10, _), (11, _), (12, _), (13, _), (14, _), (15, _), (16, _), (17, _), (18, _), (19, _)] [(0, _), (101, _)] ⟨rfl, rfl, rfl, rfl, rfl, rfl, rfl, rfl, rfl, rfl, rfl, rfl, rfl, rfl, rfl, rfl, trivial⟩ r2
    try dsimp only [List.map, List.drop_succ_cons, List.drop_zero, List.drop_nil, List.take_succ_cons, List.take_zero, List.take_nil, ldSF, rPair] at hS
    refine then_n ?_
    refine wp_ret ?_
    refine block_r ?_
    refine then_r ?_
    refine then_r ?_
    refine block_r ?_
    refine then_r ?_
    refine ret_P hfr hS rfl (.tmp rfl (.tmp rfl .nil)) (.two (.int (by rw [hg])) (.bool (by rw [hg])))
   ·skip
    have hBq : ¬ (Go.Gm.nth l i).key = k := by simpa using hc1
    refine wp_skip ?_
    refine block_n ?_
    refine then_n ?_
    refine region_seq hS (by kernel_rfl)
      (cF rfl (o_add .t (.ci (by kernel_rfl))) r1 trivial
      (cF rfl (o_move .t (by rfl)) r1 trivial
      Chain.nil))
      (by kernel_rfl) (by rw [hB]; kernel_rfl) ?_
    clear hS; intro a w F hS
    obtain ⟨F, hS⟩ := hS.norm [(1, _), (4, _), (5, _), (7, _), (8, _), (9, _), (10, _), (11, _), (12, _), (13, _), (14, _), (15, _), (16, _), (17, _), (20, _)] [(0, _), (101, _)] ⟨rfl, rfl, rfl, rfl, rfl, rfl, rfl, rfl, rfl, rfl, rfl, rfl, rfl, rfl, rfl, trivial⟩ r2
    try dsimp only [rPair] at hS
    refine then_n ?_
    replace hS := hS.ent (i := 10) (s' := .pv (.int .i64 ((i + 1 : Nat) : Int))) rfl (.int (wrap_succ (by omega)))
    obtain ⟨F, hS⟩ := hS.norm [(10, _), (1, _), (4, _), (5, _), (8, _), (9, _)] [(0, _)] ⟨rfl, rfl, rfl, rfl, rfl, rfl, trivial⟩ ⟨rfl, trivial⟩
    exact ⟨(i + 1), F, ⟨by omega, (by rw [drop_nth hil] at hq; rw [← hq]; exact (if_neg hBq).symm)⟩, hS, by omega⟩
  ·skip
   have hil : i = l.length := by simp at hc0; omega
   have hg : getL k l = (0, false) := by rw [← hq, show i = l.length by simp at hc0; omega, List.drop_length]; rfl
   refine wp_exit ?_
   refine then_x ?_
   refine then_x ?_
   refine block_x ?_
   refine then_n ?_
   refine wp_seq ?_
   refine region_seq hS (by kernel_rfl)
     (cF rfl (o_assign (.ci (by kernel_rfl)) (by rfl)) trivial trivial
     (cF rfl (o_assign .cb (by rfl)) trivial trivial
     Chain.nil))
     (by kernel_rfl) (by rw [hB]; kernel_rfl) ?_
   clear hS; intro a w F hS
   obtain ⟨F, hS⟩ := hS.norm [(4, _), (5, _)] [(0, _)] r2 r1
   try dsimp only [rPair] at hS
   refine then_n ?_
   refine wp_ret ?_
   refine ret_P hfr hS rfl (.tmp rfl (.tmp rfl .nil)) (.two (.int (by rw [hg])) (.bool (by rw [hg])))

theorem rank06_c (l : List PairD) (k : Int) : FnP Try.prog 58 [.sl rPair l, .int .i64 k] (.int .i64 (rankL k l)) := by
  refine FnP.mk Try.func58 rfl Try.ntmps58 rfl ?_
  intro B a w F hB hfr hS
  have hll := Sat.lenSl hS (i := 0) rfl
  refine wp_seq ?_
  refine region_seq hS (by kernel_rfl)
    (cF rfl (o_assign (.ci (by kernel_rfl)) (by rfl)) trivial trivial
    Chain.nil)
    (by kernel_rfl) (by rw [hB]; kernel_rfl) ?_
  clear hS; intro a w F hS
  obtain ⟨F, hS⟩ := hS.norm [(0, _), (1, _), (4, _)] [(0, _)] r3 r1
  try dsimp only [rPair] at hS
  refine then_n ?_
  refine wp_seq ?_
  refine region_seq hS (by kernel_rfl)
    (cF rfl (o_assign (.ci (by kernel_rfl)) (by rfl)) trivial trivial
    Chain.nil)
    (by kernel_rfl) (by rw [hB]; kernel_rfl) ?_
  clear hS; intro a w F hS
  obtain ⟨F, hS⟩ := hS.norm [(0, _), (1, _), (4, _), (5, _)] [(0, _)] r4 r1
  try dsimp only [rPair] at hS
  refine then_n ?_
  refine wp_seq ?_
  refine wp_seq ?_
  refine region_seq hS (by kernel_rfl)
    (cF rfl (o_move .t (by rfl)) r1 trivial
    (cF rfl (o_len_sl Try.underlying55 .t) r1 trivial
    (cF rfl (o_move (.ci (by kernel_rfl)) (by rfl)) trivial trivial
    Chain.nil)))
    (by kernel_rfl) (by rw [hB]; kernel_rfl) ?_
  clear hS; intro a w F hS
  obtain ⟨F, hS⟩ := hS.norm [(1, _), (4, _), (5, _), (8, _), (9, _), (10, _)] [(0, _)] r6 r1
  try dsimp only [rPair] at hS
  refine then_n ?_
  refine wp_block ?_
  refine loop_keep (σ := (Nat)) [1, 4, 8, 9] [0] (fun s => [(10, .pv (.int .i64 (s : Int))), (5, .pv (.int .i64 (rankL k (l.take s))))]) (fun s => []) (fun s => s ≤ l.length ∧ (True)) (fun s => l.length - s) (0) hS ⟨rfl, rfl, rfl, rfl, rfl, rfl, trivial⟩ ⟨rfl, trivial⟩ ⟨Nat.zero_le _, trivial⟩ ?_
  clear hS; intro i a w F hC hS
  try dsimp only at hC
  obtain ⟨F, hS⟩ := hS.norm [(1, _), (4, _), (5, _), (8, _), (9, _), (10, _)] [(0, _)] r6 r1
  try dsimp only at hS
  obtain ⟨hi, hq⟩ := hC
  have hri := rankL_in k (l.take i)
  rw [List.length_take] at hri
  refine wp_seq ?_
  refine region_seq hS (by kernel_rfl)
    (cF rfl (o_lss .t .t) r2 trivial
    Chain.nil)
    (by kernel_rfl) (by rw [hB]; kernel_rfl) ?_
  clear hS; intro a w F hS
  obtain ⟨F, hS⟩ := hS.norm [(1, _), (4, _), (5, _), (8, _), (9, _), (10, _), (11, _)] [(0, _)] r7 r1
  try dsimp only [rPair] at hS
  refine then_n ?_
  refine wp_seq ?_
  refine cond_b hS rfl (fun hc0 => ?_) (fun hc0 => ?_)
  ·skip
   have hil : i < l.length := by simp at hc0; omega
   refine wp_skip ?_
   refine then_n ?_
   refine wp_seq ?_
   refine wp_block ?_
   refine wp_seq ?_
   refine region_seq hS (by kernel_rfl)
     (cF rfl (o_indexAddr_sl (sz := 2) (.mk Try.underlying55 (by kernel_rfl)) (by intro x; rfl) .t .t (by first | assumption | omega) (by first | assumption | omega)) r2 trivial
     (cF rfl (o_load_ref (ag := true) (sz := 2) .t (by kernel_rfl) (by kernel_rfl) (by kernel_rfl)) r1 trivial
     (cF rfl (o_alloc (zs := [.int .i64 0, .int .i64 0]) 101 (by kernel_rfl)) trivial trivial
     (cF rfl (o_storeA (sz := 2) 101 .same .t (by kernel_rfl) (by kernel_rfl) (by kernel_rfl)) r2 r1
     Chain.nil))))
     (by kernel_rfl) (by rw [hB]; kernel_rfl) ?_
   clear hS; intro a w F hS
   replace hS := hS.sub
   obtain ⟨F, hS⟩ := hS.norm [(1, _), (4, _), (5, _), (7, _), (8, _), (9, _), (10, _), (11, _), (12, _), (13, _)] [(0, _), (101, _)] ⟨rfl, rfl, rfl, rfl, rfl, rfl, rfl, rfl, rfl, rfl, trivial⟩ r2
   try dsimp only [RS.sub, SF.sub, CF.sub, csub, Anc.sub, List.map, stCells, List.length_cons, List.length_nil, Nat.reduceAdd, List.drop_succ_cons, List.drop_zero, List.drop_nil, List.take_succ_cons, List.take_zero, List.take_nil, List.cons_append, List.nil_append, zCF, ldSF, rPair] at hS
   generalize Act.tau a 7 = v7 at hS
   try simp only [Int.toNat_natCast] at hS
   refine then_n ?_
   refine wp_seq ?_
   refine region_seq hS (by kernel_rfl)
     (cF rfl (o_fieldAddr (off := 0) 101 .is (by kernel_rfl) (by rfl)) r1 r1
     (cF rfl (o_load (ag := false) (sz := 1) 101 .adr (by kernel_rfl) (by kernel_rfl) (by kernel_rfl) (by rfl)) r1 r1
     (cF rfl (o_move .t (by rfl)) r1 trivial
     (cF rfl (o_lss .t .t) r2 trivial
     Chain.nil))))
     (by kernel_rfl) (by rw [hB]; kernel_rfl) ?_
   clear hS; intro a w F hS
   obtain ⟨F, hS⟩ := hS.norm [(1, _), (4, _), (5, _), (7, _), (8, _), (9, _), (10, _), (11, _), (12, _), (13, _), (14, _), (15, _), (16, _), (17, _)] [(0, _), (101, _)] ⟨rfl, rfl, rfl, rfl, rfl, rfl, rfl, rfl, rfl, rfl, rfl, rfl, rfl, rfl, trivial⟩ r2
   try dsimp only [List.map, List.drop_succ_cons, List.drop_zero, List.drop_nil, List.take_succ_cons, List.take_zero, List.take_nil, ldSF, rPair] at hS
   refine then_n ?_
   refine cond_b hS rfl (fun hc1 => ?_) (fun hc1 => ?_)
   ·skip
    have hR : IntKind.wrap .i64 (rankL k (l.take i) + 1) = rankL k (l.take (i + 1)) := by rw [take_nth hil, rankL_snoc, if_pos (by simpa using hc1), wrap_i64 (by omega)]
    refine region_seq hS (by kernel_rfl)
      (cF rfl (o_move .t (by rfl)) r1 trivial
      (cF rfl (o_add .t (.ci (by kernel_rfl))) r1 trivial
      (cF rfl (o_assign .t (by rfl)) r1 trivial
      Chain.nil)))
      (by kernel_rfl) (by rw [hB]; kernel_rfl) ?_
    clear hS; intro a w F hS
    obtain ⟨F, hS⟩ := hS.norm [(1, _), (4, _), (5, _), (7, _), (8, _), (9, _), (10, _), (11, _), (12, _), (13, _), (14, _), (15, _), (16, _), (17, _), (18, _), (19, _)] [(0, _), (101, _)] ⟨rfl, rfl, rfl, rfl, rfl, rfl, rfl, rfl, rfl, rfl, rfl, rfl, rfl, rfl, rfl, rfl, trivial⟩ r2
    try dsimp only [rPair] at hS
    refine block_n ?_
    refine then_n ?_
    refine region_seq hS (by kernel_rfl)
      (cF rfl (o_add .t (.ci (by kernel_rfl))) r1 trivial
      (cF rfl (o_move .t (by rfl)) r1 trivial
      Chain.nil))
      (by kernel_rfl) (by rw [hB]; kernel_rfl) ?_
    clear hS; intro a w F hS
    obtain ⟨F, hS⟩ := hS.norm [(1, _), (4, _), (5, _), (7, _), (8, _), (9, _), (10, _), (11, _), (12, _), (13, _), (14, _), (15, _), (16, _), (17, _), (18, _), (19, _), (20, _)] [(0, _), (101, _)] ⟨rfl, rfl, rfl, rfl, rfl, rfl, rfl, rfl, rfl, rfl, rfl, rfl, rfl, rfl, rfl, rfl, rfl, trivial⟩ r2
    try dsimp only [rPair] at hS
    refine then_n ?_
    replace hS := hS.ent (i := 10) (s' := .pv (.int .i64 ((i + 1 : Nat) : Int))) rfl (.int (wrap_succ (by omega)))
    replace hS := hS.ent (i := 5) (s' := .pv (.int .i64 (rankL k (l.take (i + 1))))) rfl (.int hR)
    obtain ⟨F, hS⟩ := hS.norm [(10, _), (5, _), (1, _), (4, _), (8, _), (9, _)] [(0, _)] ⟨rfl, rfl, rfl, rfl, rfl, rfl, trivial⟩ ⟨rfl, trivial⟩
    exact ⟨(i + 1), F, ⟨by omega, trivial⟩, hS, by omega⟩
   ·skip
    have hR : rankL k (l.take i) = rankL k (l.take (i + 1)) := by rw [take_nth hil, rankL_snoc, if_neg (by simpa using hc1)]; omega
    refine wp_skip ?_
    refine block_n ?_
    refine then_n ?_
    refine region_seq hS (by kernel_rfl)
      (cF rfl (o_add .t (.ci (by kernel_rfl))) r1 trivial
      (cF rfl (o_move .t (by rfl)) r1 trivial
      Chain.nil))
      (by kernel_rfl) (by rw [hB]; kernel_rfl) ?_
    clear hS; intro a w F hS
    obtain ⟨F, hS⟩ := hS.norm [(1, _), (4, _), (5, _), (7, _), (8, _), (9, _), (10, _), (11, _), (12, _), (13, _), (14, _), (15, _), (16, _), (17, _), (20, _)] [(0, _), (101, _)] ⟨rfl, rfl, rfl, rfl, rfl, rfl, rfl, rfl, rfl, rfl, rfl, rfl, rfl, rfl, rfl, trivial⟩ r2
    try dsimp only [rPair] at hS
    refine then_n ?_
    replace hS := hS.ent (i := 10) (s' := .pv (.int .i64 ((i + 1 : Nat) : Int))) rfl (.int (wrap_succ (by omega)))
    replace hS := hS.ent (i := 5) (s' := .pv (.int .i64 (rankL k (l.take (i + 1))))) rfl (.int hR)
    obtain ⟨F, hS⟩ := hS.norm [(10, _), (5, _), (1, _), (4, _), (8, _), (9, _)] [(0, _)] ⟨rfl, rfl, rfl, rfl, rfl, rfl, trivial⟩ ⟨rfl, trivial⟩
    exact ⟨(i + 1), F, ⟨by omega, trivial⟩, hS, by omega⟩
  ·skip
   have hil : i = l.length := by simp at hc0; omega
   have hg : rankL k (l.take i) = rankL k l := by rw [show i = l.length by simp at hc0; omega, List.take_length]
   refine wp_exit ?_
   refine then_x ?_
   refine then_x ?_
   refine block_x ?_
   refine then_n ?_
   refine wp_seq ?_
   refine region_seq hS (by kernel_rfl)
     (cF rfl (o_move .t (by rfl)) r1 trivial
     (cF rfl (o_assign .t (by rfl)) r1 trivial
     Chain.nil))
     (by kernel_rfl) (by rw [hB]; kernel_rfl) ?_
   clear hS; intro a w F hS
   obtain ⟨F, hS⟩ := hS.norm [(4, _)] [(0, _)] r1 r1
   try dsimp only [rPair] at hS
   refine then_n ?_
   refine wp_ret ?_
   refine ret_P hfr hS rfl (.tmp rfl .nil) (.one (.int hg))

end Go.Proofs.Ytdfpljecogijaaa
