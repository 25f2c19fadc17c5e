/- Sequences: List, At. No condition beyond those that each theorem says. -/
import Derived.Test.YtdfidiehkkbimaaSq3
import Derived.Test.YtdfidiehkkbimaaAv8
namespace Go.Proofs.Ytdfidiehkkbimaa
open Go Go.Gm
set_option linter.unusedVariables false
set_option linter.unusedSimpArgs false
set_option maxHeartbeats 4000000
set_option maxRecDepth 8000


def tVals (t : Tree) : List Int := (tList t).map PairD.val
theorem tVals_len (t : Tree) : ((tVals t).length : Int) = tSize t := by rw [tSize_list]; simp [tVals]
theorem tVals_node (l r : Tree) (p : PairD) : tVals (.node l p r) = tVals l ++ p.val :: tVals r := by simp [tVals, tList]
def stV (q : List Cell) : List (Int × Tree) → List Int
  | [] => []
  | e :: st => stV q st ++ ((getC q e.1).val :: tVals e.2)
def stM2 : List (Int × Tree) → Int
  | [] => 0
  | e :: st => stM2 st + (2 * tSize e.2 + 1)
theorem stV_snoc (q : List Cell) (e : Int × Tree) : ∀ st : List (Int × Tree), stV q (st ++ [e]) = (getC q e.1).val :: (tVals e.2 ++ stV q st)
  | [] => by simp [stV]
  | x :: st => by rw [List.cons_append, stV, stV_snoc q e st, stV]; simp
theorem stM2_snoc (e : Int × Tree) : ∀ st : List (Int × Tree), stM2 (st ++ [e]) = stM2 st + (2 * tSize e.2 + 1)
  | [] => by simp [stM2]
  | x :: st => by rw [List.cons_append, stM2, stM2_snoc e st, stM2]; omega
theorem stM2_nn : ∀ st : List (Int × Tree), 0 ≤ stM2 st
  | [] => Int.le_refl 0
  | e :: st => by have := stM2_nn st; have := tSize_nn e.2; rw [stM2]; omega
theorem stV_len (q : List Cell) : ∀ st : List (Int × Tree), st.length ≤ (stV q st).length
  | [] => Nat.le_refl 0
  | e :: st => by have := stV_len q st; rw [stV, List.length_append, List.length_cons, List.length_cons]; omega
theorem tVals_nth_l {l r : Tree} {p : PairD} {j : Int} (h0 : 0 ≤ j) (h : j < tSize l) : Go.Gm.nth (tVals (.node l p r)) j.toNat = Go.Gm.nth (tVals l) j.toNat := by
  have := tVals_len l
  rw [tVals_node, nth_eq (by simp; omega), nth_eq (by omega), List.getElem_append_left (by omega)]
theorem tVals_nth_m {l r : Tree} {p : PairD} {j : Int} (h : j = tSize l) : Go.Gm.nth (tVals (.node l p r)) j.toNat = p.val := by
  have := tVals_len l
  rw [tVals_node, nth_eq (by simp; omega), List.getElem_append_right (by omega)]
  simp [show j.toNat - (tVals l).length = 0 by omega]
theorem tVals_nth_r {l r : Tree} {p : PairD} {j : Int} (h : tSize l < j) (h2 : j < tSize (.node l p r)) : Go.Gm.nth (tVals (.node l p r)) j.toNat = Go.Gm.nth (tVals r) (j - (tSize l + 1)).toNat := by
  have := tVals_len l
  have := tVals_len r
  have e : tSize (.node l p r) = tSize l + tSize r + 1 := rfl
  rw [tVals_node, nth_eq (by simp; omega), nth_eq (by omega), List.getElem_append_right (by omega)]
  simp only [List.getElem_cons, show ¬ j.toNat - (tVals l).length = 0 by omega, dif_neg, not_false_iff]
  congr 1; omega
def atS (k : Int) (t : Tree) : Int := if 0 ≤ k ∧ k < tSize t then Go.Gm.nth (tVals t) k.toNat else 0
def idxL (v : Int) : List Int → Int
  | [] => -1
  | x :: l => if x = v then 0 else if idxL v l < 0 then -1 else idxL v l + 1
theorem idxL_none {v : Int} : ∀ {l : List Int}, (∀ k, k < l.length → Go.Gm.nth l k ≠ v) → idxL v l = -1
  | [], _ => rfl
  | x :: l, h => by
    have h0 : x ≠ v := h 0 (by simp)
    rw [idxL, if_neg h0, idxL_none (l := l) fun k hk => by have := h (k + 1) (by simpa using hk); exact this, if_pos (by decide)]
theorem idxL_at {v : Int} : ∀ {l : List Int} {i : Nat}, i < l.length → Go.Gm.nth l i = v → (∀ k, k < i → Go.Gm.nth l k ≠ v) → idxL v l = i
  | [], i, h, _, _ => by simp at h
  | x :: l, 0, _, h, _ => by rw [idxL, if_pos (show x = v from h)]; rfl
  | x :: l, i + 1, h, h1, h2 => by
    have h0 : x ≠ v := h2 0 (by omega)
    have := idxL_at (l := l) (i := i) (by simpa using h) h1 fun k hk => h2 (k + 1) (by omega)
    rw [idxL, if_neg h0, this, if_neg (by omega)]; omega
def insL (l : List Int) (j x : Int) : List Int := if 0 ≤ j ∧ j ≤ l.length then l.take j.toNat ++ x :: l.drop j.toNat else l

theorem sList_c (o : Option Nat) (room : Int) (q : List Cell) (root : Int) (t0 : Tree) (hr0 : Rep kz q t0 root) (hs : tSize t0 ≤ 1000000) : FnG Try.prog 35 1 [.agg [.is (arV o), .int .i64 root]] [arH o room q] (.sl rInt (tVals t0)) (fun _ => [arH o room q]) := by
  refine FnG.mk Try.func35 rfl Try.ntmps35 rfl (by kernel_rfl) ?_
  intro B F0 a w F hB hG hS
  refine wp_seq ?_
  refine region_q hS
    (cF rfl (oX 101 (.conv .t .agg)) r1 trivial
    (cF rfl (oN (.c rfl)) trivial trivial
    Chain.nil))
    hB ?_
  clear hS; intro a w F hS
  replace hS := hS.sub
  obtain ⟨F, hS⟩ := hS.nm [2, 1] [101, 1, 0] rfl rfl
  try dsimp only [RS.sub, SF.sub, CF.sub, csub, Anc.sub, List.map, zCF, rCell, rInt] at hS
  generalize Act.tau a 1 = v1 at hS
  refine then_n (wp_seq ?_)
  refine region_q hS
    (cF rfl (oN (.c rfl)) trivial trivial
    Chain.nil)
    hB ?_
  clear hS; intro a w F hS
  obtain ⟨F, hS⟩ := hS.nm [3, 2, 1] [101, 1, 0] rfl rfl
  try dsimp only [rCell, rInt] at hS
  refine then_n (wp_seq ?_)
  refine region_q hS
    (cF rfl (oN (.c rfl)) trivial trivial
    Chain.nil)
    hB ?_
  clear hS; intro a w F hS
  obtain ⟨F, hS⟩ := hS.nm [4, 3, 2, 1] [101, 1, 0] rfl rfl
  try dsimp only [rCell, rInt] at hS
  refine then_n (wp_seq (wp_seq ?_))
  refine region_q hS
    (cF rfl (oF 1 101 .is) r1 r1
    (cF rfl (oL false 1 101 .adr) r1 r1
    (cF rfl (oN .t) r1 trivial
    Chain.nil)))
    hB ?_
  clear hS; intro a w F hS
  obtain ⟨F, hS⟩ := hS.nm [5, 4, 3, 2, 1] [101, 1, 0] rfl rfl
  try dsimp only [List.map, xD, xE, xT, xU, ldSF, rCell, rInt] at hS
  refine then_n (wp_block ?_)
  replace hS := hS.fresh 50 rfl
  replace hS := hS.turn 50 rfl (nilRow (T := 3) (sz := 1) (R := rInt))
  replace hS := hS.fresh 51 rfl
  replace hS := hS.turn 51 rfl (nilRow (T := 3) (sz := 1) (R := rInt))
  refine loop_keep (σ := Int × Tree × List (Int × Tree) × Value × List Int × Value × List Int) [1, 2] [0, 1, 101] (fun s => [(5, .pv (.int .i64 s.1)), (3, .pv (.is s.2.2.2.1)), (4, .pv (.is s.2.2.2.2.2.1))]) (fun s => [(50, .ob (.val s.2.2.2.1) (rowH 3 1 rInt s.2.2.2.2.1)), (51, .ob (.val s.2.2.2.2.2.1) (rowH 3 1 rInt s.2.2.2.2.2.2))]) (fun s => Rep kz q s.2.1 s.1 ∧ (∀ e ∈ s.2.2.1, Rep kz q e.2 (getC q e.1).right) ∧ s.2.2.2.2.2.2 = s.2.2.1.map Prod.fst ∧ s.2.2.2.2.1 ++ (tVals s.2.1 ++ stV q s.2.2.1) = tVals t0) (fun s => (2 * tSize s.2.1 + stM2 s.2.2.1).toNat) ((root), (t0), ([]), (.slice none 0 0), ([]), (.slice none 0 0), ([])) hS ⟨rfl, rfl, rfl, rfl, rfl, trivial⟩ ⟨rfl, rfl, rfl, rfl, rfl, trivial⟩ ⟨hr0, fun e he => by simp at he, rfl, by simp [stV]⟩ ?_
  clear hS; intro s a w F hC hS
  obtain ⟨i, t, st, v, out, wv, wt⟩ := s
  try dsimp only at hC
  obtain ⟨F, hS⟩ := hS.nm [5, 4, 3, 2, 1] [101, 51, 50, 1, 0] rfl rfl
  try dsimp only at hS
  obtain ⟨hr, hst, hwt, hk⟩ := hC
  have hkl := congrArg List.length hk
  simp only [List.length_append] at hkl
  have hsl := stV_len q st
  have hwl := congrArg List.length hwt
  rw [List.length_map] at hwl
  have hnn := stM2_nn st
  have hsz := tVals_len t0
  refine wp_seq (wp_seq ?_)
  refine region_q hS
    (cF rfl (oM .t) r1 trivial
    (cF rfl (o_gtr .t (.ci (by kernel_rfl))) r1 trivial
    (cF rfl (oM .t) r1 trivial
    (Chain.cons (Cert.cond rfl rfl (fun h => o_move .t (by rfl))) r2 trivial
    (Chain.cons (Cert.cond rfl rfl (fun h => o_len_row 51 Try.underlying61 (.w h .is))) r2 r1
    (Chain.cons (Cert.cond rfl rfl (fun h => o_gtr (.w h) (.ci (by kernel_rfl)))) r2 trivial
    (cF rfl (o_or2 .t .t) r2 trivial
    Chain.nil)))))))
    hB ?_
  clear hS; intro a w F hS
  obtain ⟨F, hS⟩ := hS.nm [15, 14, 13, 12, 11, 10, 9, 5, 4, 3, 2, 1] [101, 51, 50, 1, 0] rfl rfl
  try dsimp only [rCell, rInt] at hS
  refine then_n ?_
  refine cond_b hS rfl (fun hc0 => ?_) (fun hc0 => ?_)
  ·skip
   have hgo : 0 < i ∨ 0 < wt.length := by simp only [Bool.or_eq_true, decide_eq_true_eq] at hc0; omega
   refine wp_skip (then_n (wp_block (wp_seq (wp_seq ?_))))
   refine region_q hS
     (cF rfl (oM .t) r1 trivial
     (cF rfl (o_gtr .t (.ci (by kernel_rfl))) r1 trivial
     Chain.nil))
     hB ?_
   clear hS; intro a w F hS
   obtain ⟨F, hS⟩ := hS.nm [17, 16, 15, 14, 13, 12, 11, 10, 9, 5, 4, 3, 2, 1] [101, 51, 50, 1, 0] rfl rfl
   try dsimp only [rCell, rInt] at hS
   refine then_n ?_
   refine cond_b hS rfl (fun hc1 => ?_) (fun hc1 => ?_)
   ·skip
    have hi : 0 < i := by simpa using hc1
    obtain ⟨l, pp, r, ht⟩ := hr.node (show i ≠ 0 by omega)
    rw [ht] at hr hk
    have hvx : (getC q i).val = pp.val := hr.2.2.2.2.2.1
    obtain ⟨t2, ht2⟩ : ∃ t2, t2 = l := ⟨_, rfl⟩
    obtain ⟨st2, hs2⟩ : ∃ st2, st2 = st ++ [(i, r)] := ⟨_, rfl⟩
    have hmu : (2 * tSize t2 + stM2 st2).toNat < (2 * tSize t + stM2 st).toNat := by rw [ht, hs2, ht2, stM2_snoc]; have := tSize_nn l; have := tSize_nn r; show (2 * tSize l + (stM2 st + (2 * tSize r + 1))).toNat < (2 * (tSize l + tSize r + 1) + stM2 st).toNat; omega
    have hC2 : Rep kz q t2 (getC q i).left ∧ (∀ e ∈ st2, Rep kz q e.2 (getC q e.1).right) ∧ wt ++ [i] = st2.map Prod.fst ∧ out ++ (tVals t2 ++ stV q st2) = tVals t0 := ⟨by rw [ht2]; exact hr.2.1, fun e he => by rw [hs2] at he; rcases List.mem_append.1 he with he | he; (· exact hst e he); (· rw [List.mem_singleton.1 he]; exact hr.2.2.1), by rw [hs2, hwt]; simp, by rw [← hk, ht2, hs2, stV_snoc, tVals_node, hvx]; simp⟩
    refine wp_seq ?_
    refine region_q hS
      (cF rfl (oM .t) r1 trivial
      (cF rfl (oM .t) r1 trivial
      (cF rfl (o_buildSliceE (sz := 1) (zs := [.int .i64 0]) (r := [(0, .tmp 19)]) (l := [_]) Try.underlying61 (by kernel_rfl) (by kernel_rfl) (by kernel_rfl) (by kernel_rfl) rfl rfl (.one rfl .t one_int (by kernel_rfl) .nil) rfl) r1 trivial
      (cF rfl (o_append (sz := 1) (bs := 8) 51 (.mk' Try.underlying61 (by kernel_rfl) (by kernel_rfl)) (by intro x; rfl) .is (.arr (l' := [i]) .t) (by simp only [List.length_append, List.length_cons, List.length_nil]; omega) (by decide)) ⟨rfl, rfl, trivial⟩ ⟨rfl, trivial⟩
      (cF rfl (oN .t) r1 trivial
      Chain.nil)))))
      hB ?_
    clear hS; intro a w F hS
    replace hS := hS.sub
    obtain ⟨F, hS⟩ := hS.nm [21, 20, 19, 18, 17, 16, 15, 14, 13, 12, 11, 10, 9, 5, 4, 3, 2, 1] [101, 51, 50, 1, 0] rfl rfl
    try dsimp only [RS.sub, SF.sub, CF.sub, csub, Anc.sub, List.map, stCells, xL, xM, Nat.reduceAdd, xD, xE, xT, xU, xC, xN, zCF, rCell, rInt] at hS
    generalize Act.tau a 21 = v21 at hS
    refine then_n (wp_seq ?_)
    refine region_q hS
      (cF rfl (oL true 2 101 .is) r1 r1
      (cF rfl (oM .t) r1 trivial
      (cF rfl (o_callG1 1 (scell_c o room q root i) Try.func87 rfl (by kernel_rfl) (Args.two (.pagg .t) .t)) r2 r1
      (cF rfl (o_field1 (ft := 3) (off := 0) (by kernel_rfl) (by kernel_rfl) .t rfl) r1 trivial
      (cF rfl (oN .t) r1 trivial
      Chain.nil)))))
      hB ?_
    clear hS; intro a w F hS
    obtain ⟨F, hS⟩ := hS.nm [25, 24, 23, 22, 21, 20, 19, 18, 17, 16, 15, 14, 13, 12, 11, 10, 9, 5, 4, 3, 2, 1] [101, 51, 50, 1, 0] rfl rfl
    try dsimp only [List.map, xD, xE, xT, xU, ldSF, rCell, rInt] at hS
    refine then_n (wp_exit (then_x (block_x (then_n ?_))))
    obtain ⟨F, hS⟩ := hS.nm [2, 1, 4, 3, 5] [101, 1, 0, 51, 50] rfl rfl
    exact ⟨(_, (t2), (st2), _, _, _, _), F, hC2, hS, hmu⟩
   have hi : ¬ 0 < i := by simpa using hc1
   have hx := hr.range
   have h0 : i = 0 := by omega
   rw [h0] at hr
   have hz : t = .nil := hr.zero
   obtain ⟨st2, e, hse⟩ := snoc_of (l := st) (by omega)
   have hwe : wt = st2.map Prod.fst ++ [e.1] := by rw [hwt, hse]; simp
   have hw2 : wt.length = st2.length + 1 := by rw [hwl, hse]; simp
   have hnw : IntKind.wrap .i64 ((wt.length : Int) - 1) = (st2.length : Int) := by rw [wrap_i64 (by omega)]; omega
   have hne : Go.Gm.nth wt st2.length = e.1 := by rw [hwe]; have := nth_snoc (st2.map Prod.fst) e.1; rwa [List.length_map] at this
   have htk : wt.take st2.length = st2.map Prod.fst := by rw [hwe, show st2.length = (st2.map Prod.fst).length by simp, List.take_left]
   have hne2 : Go.Gm.nth wt (IntKind.wrap .i64 ((wt.length : Int) - 1)).toNat = e.1 := by rw [hnw, Int.toNat_natCast]; exact hne
   obtain ⟨t2, ht2⟩ : ∃ t2, t2 = e.2 := ⟨_, rfl⟩
   have hmu : (2 * tSize t2 + stM2 st2).toNat < (2 * tSize t + stM2 st).toNat := by rw [hz, hse, ht2, stM2_snoc]; have := tSize_nn e.2; have := stM2_nn st2; show (2 * tSize e.2 + stM2 st2).toNat < (2 * 0 + (stM2 st2 + (2 * tSize e.2 + 1))).toNat; omega
   have hC2 : Rep kz q t2 (getC q e.1).right ∧ (∀ e ∈ st2, Rep kz q e.2 (getC q e.1).right) ∧ st2.map Prod.fst = st2.map Prod.fst ∧ (out ++ [(getC q e.1).val]) ++ (tVals t2 ++ stV q st2) = tVals t0 := ⟨by rw [ht2]; exact hst e (by rw [hse]; simp), fun x hx => hst x (by rw [hse]; simp [hx]), rfl, by rw [← hk, hz, hse, ht2, stV_snoc]; simp [tVals, tList]⟩
   have hcut0 : 0 ≤ IntKind.wrap .i64 ((wt.length : Int) - 1) := by omega
   have hcut1 : IntKind.wrap .i64 ((wt.length : Int) - 1) ≤ wt.length := by omega
   have hol : out.length ≤ 1000000 := by omega
   refine wp_skip (then_n (wp_seq ?_))
   refine region_any (by kernel_rfl) hS (by kernel_rfl)
     (cF rfl (oL true 2 101 .is) r1 r1
     (cF rfl (oM .t) r1 trivial
     (cF rfl (oM .t) r1 trivial
     (cF rfl (o_len_row 51 Try.underlying61 .is) r1 r1
     (cF rfl (o_sub .t (.ci (by kernel_rfl))) r1 trivial
     (cF rfl (o_indexAddr_row (sz := 1) 51 (.mk Try.underlying61 (by kernel_rfl)) .is .t (by omega) (by omega) (by rfl)) r2 r1
     (cF rfl (o_load_row0 (ag := false) (sz' := 1) (sz := 1) 51 .t (by intro x; rfl) (by rw [hnw, Int.toNat_natCast]; omega) (by kernel_rfl) (by kernel_rfl) (by kernel_rfl)) r1 r1
     (cF rfl (o_callG1 1 (scell_c o room q root (Go.Gm.nth wt (IntKind.wrap .i64 ((wt.length : Int) - 1)).toNat)) Try.func87 rfl (by kernel_rfl) (Args.two (.pagg .t) .t)) r2 r1
     (cF rfl (oH [.int .i64 0, .int .i64 0, .int .i64 0, .int .i64 0, .int .i64 0, .int .i64 0] 102) trivial trivial
     (cF rfl (oA 6 102 .same (.conv .t .agg)) r2 r1
     Chain.nil))))))))))
     (by kernel_rfl) (by rw [hB]; kernel_rfl) ?_
   clear hS; intro a w F hS
   replace hS := hS.sub
   obtain ⟨F, hS⟩ := hS.nm [33, 32, 31, 30, 29, 28, 27, 26, 17, 16, 15, 14, 13, 12, 11, 10, 9, 6, 5, 4, 3, 2, 1] [102, 101, 51, 50, 1, 0] rfl rfl
   try dsimp only [RS.sub, SF.sub, CF.sub, csub, Anc.sub, List.map, stCells, xL, xM, Nat.reduceAdd, xD, xE, xT, xU, xC, xN, zCF, ldSF, rCell, rInt] at hS
   generalize Act.tau a 6 = v6 at hS
   try simp only [Int.toNat_natCast] at hS
   rw [hne2] at hS
   refine then_n (wp_seq ?_)
   refine region_q hS
     (cF rfl (oM .t) r1 trivial
     (cF rfl (oM .t) r1 trivial
     (cF rfl (o_len_row 51 Try.underlying61 .is) r1 r1
     (cF rfl (o_sub .t (.ci (by kernel_rfl))) r1 trivial
     (cF rfl (o_cut_row (sz := 1) 51 (.mk Try.underlying61 (by kernel_rfl)) (by intro x; rfl) .is .t (by assumption) (by assumption)) r2 r1
     (cF rfl (oN .t) r1 trivial
     Chain.nil))))))
     hB ?_
   clear hS; intro a w F hS
   replace hS := hS.sub
   obtain ⟨F, hS⟩ := hS.nm [38, 37, 36, 35, 34, 33, 32, 31, 30, 29, 28, 27, 26, 17, 16, 15, 14, 13, 12, 11, 10, 9, 6, 5, 4, 3, 2, 1] [102, 101, 51, 50, 1, 0] rfl rfl
   try dsimp only [RS.sub, SF.sub, CF.sub, csub, Anc.sub, List.map, rCell, rInt] at hS
   generalize Act.tau a 38 = v38 at hS
   rw [hnw, Int.toNat_natCast, htk] at hS
   refine then_n (wp_seq ?_)
   refine region_q hS
     (cF rfl (oM .t) r1 trivial
     (cF rfl (oF 3 102 .is) r1 r1
     (cF rfl (oL false 1 102 .adr) r1 r1
     (cF rfl (o_buildSliceE (sz := 1) (zs := [.int .i64 0]) (r := [(0, .tmp 41)]) (l := [_]) Try.underlying61 (by kernel_rfl) (by kernel_rfl) (by kernel_rfl) (by kernel_rfl) rfl rfl (.one rfl .t one_int (by kernel_rfl) .nil) rfl) r1 trivial
     (cF rfl (o_append (sz := 1) (bs := 8) 50 (.mk' Try.underlying61 (by kernel_rfl) (by kernel_rfl)) (by intro x; rfl) .is (.arr (l' := [(getC q e.1).val]) .t) (by simp only [List.length_append, List.length_cons, List.length_nil]; omega) (by decide)) ⟨rfl, rfl, trivial⟩ ⟨rfl, trivial⟩
     (cF rfl (oN .t) r1 trivial
     Chain.nil))))))
     hB ?_
   clear hS; intro a w F hS
   replace hS := hS.sub
   obtain ⟨F, hS⟩ := hS.nm [43, 42, 41, 40, 39, 38, 37, 36, 35, 34, 33, 32, 31, 30, 29, 28, 27, 26, 17, 16, 15, 14, 13, 12, 11, 10, 9, 6, 5, 4, 3, 2, 1] [102, 101, 51, 50, 1, 0] rfl rfl
   try dsimp only [RS.sub, SF.sub, CF.sub, csub, Anc.sub, List.map, stCells, xL, xM, Nat.reduceAdd, xD, xE, xT, xU, xC, xN, zCF, ldSF, rCell, rInt] at hS
   generalize Act.tau a 43 = v43 at hS
   refine then_n ?_
   refine region_q hS
     (cF rfl (oF 1 102 .is) r1 r1
     (cF rfl (oL false 1 102 .adr) r1 r1
     (cF rfl (oN .t) r1 trivial
     Chain.nil)))
     hB ?_
   clear hS; intro a w F hS
   obtain ⟨F, hS⟩ := hS.nm [45, 44, 43, 42, 41, 40, 39, 38, 37, 36, 35, 34, 33, 32, 31, 30, 29, 28, 27, 26, 17, 16, 15, 14, 13, 12, 11, 10, 9, 6, 5, 4, 3, 2, 1] [102, 101, 51, 50, 1, 0] rfl rfl
   try dsimp only [List.map, xD, xE, xT, xU, ldSF, rCell, rInt] at hS
   refine block_n (then_n ?_)
   obtain ⟨F, hS⟩ := hS.nm [2, 1, 4, 3, 5] [101, 1, 0, 51, 50] rfl rfl
   exact ⟨(_, (t2), (st2), _, _, _, _), F, hC2, hS, hmu⟩
  have hstop : ¬ 0 < i ∧ wt.length = 0 := by simp only [Bool.or_eq_false_iff, decide_eq_false_iff_not] at hc0; omega
  have hx := hr.range
  have h0 : i = 0 := by omega
  rw [h0] at hr
  have hfin : out = tVals t0 := by rw [← hk, hr.zero, List.eq_nil_of_length_eq_zero (show st.length = 0 by omega)]; simp [tVals, tList, stV]
  refine wp_exit (then_x (then_x (block_x (then_n (wp_seq ?_)))))
  refine region_q hS
    (cF rfl (oM .t) r1 trivial
    (cF rfl (oN .t) r1 trivial
    Chain.nil))
    hB ?_
  clear hS; intro a w F hS
  obtain ⟨F, hS⟩ := hS.nm [2] [51, 50, 1, 0] rfl rfl
  try dsimp only [rCell, rInt] at hS
  refine then_n (wp_ret ?_)
  obtain ⟨F, hS⟩ := hS.give 50 2 rfl rfl
  refine ret_G1 hG hS rfl (.tmp rfl .nil) (.one (.sl (by rw [hfin]))) rfl

theorem sAt_c (o : Option Nat) (room : Int) (q : List Cell) (root : Int) (k : Int) (t0 : Tree) (hr0 : Rep kz q t0 root) (hs : tSize t0 ≤ 1000000) : FnG Try.prog 76 1 [.agg [.is (arV o), .int .i64 root], .int .i64 k] [arH o room q] (.tup [.int .i64 (atS k t0), .bool (decide (0 ≤ k ∧ k < tSize t0))]) (fun _ => [arH o room q]) := by
  refine FnG.mk Try.func76 rfl Try.ntmps76 rfl (by kernel_rfl) ?_
  intro B F0 a w F hB hG hS
  refine wp_seq ?_
  refine region_q hS
    (cF rfl (oX 101 (.conv .t .agg)) r1 trivial
    (cF rfl (oN (.ci (by kernel_rfl))) trivial trivial
    (cF rfl (oN .cb) trivial trivial
    Chain.nil)))
    hB ?_
  clear hS; intro a w F hS
  replace hS := hS.sub
  obtain ⟨F, hS⟩ := hS.nm [5, 4, 2, 1] [101, 1, 0] rfl rfl
  try dsimp only [RS.sub, SF.sub, CF.sub, csub, Anc.sub, List.map, zCF, rCell, rInt] at hS
  generalize Act.tau a 2 = v2 at hS
  refine then_n (wp_seq (wp_seq ?_))
  refine region_q hS
    (cF rfl (oM .t) r1 trivial
    (cF rfl (o_lss .t (.ci (by kernel_rfl))) r1 trivial
    (cF rfl (oM .t) r1 trivial
    (Chain.cons (Cert.cond rfl rfl (fun h => o_move .t (by rfl))) r2 trivial
    (Chain.cons (Cert.cond rfl rfl (fun h => o_load (ag := true) (sz := 2) 101 .is (by kernel_rfl) (by kernel_rfl) (by kernel_rfl) (by rfl))) r2 r1
    (Chain.cons (Cert.condR rfl rfl (by rfl) (fun h => o_callG1 1 (slen_c o room q root t0 hr0) Try.func37 rfl (by kernel_rfl) (Args.one (.pagg (.w h))))) r2 r1
    (Chain.cons (Cert.cond rfl rfl (fun h => o_geq (.w h) (.w h))) r3 trivial
    (cF rfl (o_or2 .t .t) r2 trivial
    Chain.nil))))))))
    hB ?_
  clear hS; intro a w F hS
  obtain ⟨F, hS⟩ := hS.nm [15, 5, 4, 2, 1] [101, 1, 0] rfl rfl
  try dsimp only [List.map, xD, xE, xT, xU, ldSF, rCell, rInt] at hS
  refine then_n ?_
  refine cond_b hS rfl (fun hc0 => ?_) (fun hc0 => ?_)
  ·skip
   have hkb : ¬ (0 ≤ k ∧ k < tSize t0) := by simp at hc0; omega
   have hg : 0 = atS k t0 := (if_neg hkb).symm
   have hg2 : false = decide (0 ≤ k ∧ k < tSize t0) := (decide_eq_false hkb).symm
   refine wp_seq ?_
   refine region_q hS
     (cF rfl (oN (.ci (by kernel_rfl))) trivial trivial
     (cF rfl (oN .cb) trivial trivial
     Chain.nil))
     hB ?_
   clear hS; intro a w F hS
   obtain ⟨F, hS⟩ := hS.nm [5, 4, 2, 1] [101, 1, 0] rfl rfl
   try dsimp only [rCell, rInt] at hS
   refine then_n (wp_ret (then_r ?_))
   refine ret_G1 hG hS rfl (.tmp rfl (.tmp rfl .nil)) (.two (.int hg) (.bool hg2)) rfl
  have hkb : 0 ≤ k ∧ k < tSize t0 := by simp at hc0; omega
  have hg0 : atS k t0 = Go.Gm.nth (tVals t0) k.toNat := if_pos hkb
  have hg2 : true = decide (0 ≤ k ∧ k < tSize t0) := (decide_eq_true hkb).symm
  refine wp_skip (then_n (wp_seq ?_))
  refine region_q hS
    (cF rfl (oL true 2 101 .is) r1 r1
    (cF rfl (oF 1 101 .is) r1 r1
    (cF rfl (oL false 1 101 .adr) r1 r1
    (cF rfl (o_callG1 1 (scell_c o room q root root) Try.func87 rfl (by kernel_rfl) (Args.two (.pagg .t) .t)) r2 r1
    (cF rfl (oH [.int .i64 0, .int .i64 0, .int .i64 0, .int .i64 0, .int .i64 0, .int .i64 0] 102) trivial trivial
    (cF rfl (oA 6 102 .same (.conv .t .agg)) r2 r1
    Chain.nil))))))
    hB ?_
  clear hS; intro a w F hS
  replace hS := hS.sub
  obtain ⟨F, hS⟩ := hS.nm [6, 5, 4, 2, 1] [102, 101, 1, 0] rfl rfl
  try dsimp only [RS.sub, SF.sub, CF.sub, csub, Anc.sub, List.map, stCells, xL, xM, Nat.reduceAdd, xD, xE, xT, xU, xC, xN, zCF, ldSF, rCell, rInt] at hS
  generalize Act.tau a 6 = v6 at hS
  refine then_n (wp_block ?_)
  refine loop_keep (σ := Int × Int × Tree) [2, 4, 5, 6] [0, 1, 101] (fun s => [(1, .pv (.int .i64 s.2.1))]) (fun s => [(102, .pt (.val v6) 153 [.pv (.int .i64 (getC q s.1).left), .pv (.int .i64 (getC q s.1).right), .pv (.int .i64 (getC q s.1).key), .pv (.int .i64 (getC q s.1).val), .pv (.int .i64 (getC q s.1).size), .pv (.int .i64 (getC q s.1).high)])]) (fun s => Rep kz q s.2.2 s.1 ∧ 0 ≤ s.2.1 ∧ s.2.1 < tSize s.2.2 ∧ Go.Gm.nth (tVals s.2.2) s.2.1.toNat = Go.Gm.nth (tVals t0) k.toNat ∧ tSize s.2.2 ≤ 1000000) (fun s => (tSize s.2.2).toNat) ((root), (k), (t0)) hS ⟨rfl, rfl, rfl, rfl, rfl, trivial⟩ ⟨rfl, rfl, rfl, rfl, trivial⟩ ⟨hr0, hkb.1, hkb.2, rfl, hs⟩ ?_
  clear hS; intro s a w F hC hS
  obtain ⟨i, j, t⟩ := s
  try dsimp only at hC
  obtain ⟨F, hS⟩ := hS.nm [6, 5, 4, 2, 1] [102, 101, 1, 0] rfl rfl
  try dsimp only at hS
  obtain ⟨hr, hj, hj2, hk, hts⟩ := hC
  have hi : i ≠ 0 := fun hi => by rw [hi] at hr; rw [hr.zero] at hj2; have : tSize Tree.nil = 0 := rfl; omega
  obtain ⟨l, pp, r, ht⟩ := hr.node hi
  rw [ht] at hr hk hj2 hts
  have hvx : (getC q i).val = pp.val := hr.2.2.2.2.2.1
  have e : tSize (.node l pp r) = tSize l + tSize r + 1 := rfl
  have := tSize_nn l
  have := tSize_nn r
  have hls := hr.2.1.size
  refine wp_block (wp_seq ?_)
  refine region_q hS
    (cF rfl (oL true 2 101 .is) r1 r1
    (cF rfl (oF 0 102 .is) r1 r1
    (cF rfl (oL false 1 102 .adr) r1 r1
    (cF rfl (o_callG1 1 (scell_c o room q root (getC q i).left) Try.func87 rfl (by kernel_rfl) (Args.two (.pagg .t) .t)) r2 r1
    (cF rfl (o_field1 (ft := 3) (off := 4) (by kernel_rfl) (by kernel_rfl) .t rfl) r1 trivial
    (cF rfl (oN .t) r1 trivial
    Chain.nil))))))
    hB ?_
  clear hS; intro a w F hS
  obtain ⟨F, hS⟩ := hS.nm [24, 23, 22, 21, 20, 7, 6, 5, 4, 2, 1] [102, 101, 1, 0] rfl rfl
  try dsimp only [List.map, xD, xE, xT, xU, ldSF, rCell, rInt] at hS
  rw [hls] at hS
  refine then_n (wp_seq (wp_seq ?_))
  refine region_q hS
    (cF rfl (oM .t) r1 trivial
    (cF rfl (oM .t) r1 trivial
    (cF rfl (o_eql .t .t) r2 trivial
    Chain.nil)))
    hB ?_
  clear hS; intro a w F hS
  obtain ⟨F, hS⟩ := hS.nm [27, 26, 25, 24, 23, 22, 21, 20, 7, 6, 5, 4, 2, 1] [102, 101, 1, 0] rfl rfl
  try dsimp only [rCell, rInt] at hS
  refine then_n ?_
  refine cond_b hS rfl (fun hc1 => ?_) (fun hc1 => ?_)
  ·skip
   have h1 : j = tSize l := by simpa using hc1
   have hg : (getC q i).val = atS k t0 := by rw [hg0, ← hk, tVals_nth_m h1, hvx]
   refine wp_seq ?_
   refine region_q hS
     (cF rfl (oF 3 102 .is) r1 r1
     (cF rfl (oL false 1 102 .adr) r1 r1
     (cF rfl (oN .t) r1 trivial
     (cF rfl (oN .cb) trivial trivial
     Chain.nil))))
     hB ?_
   clear hS; intro a w F hS
   obtain ⟨F, hS⟩ := hS.nm [29, 28, 27, 26, 25, 24, 23, 22, 21, 20, 7, 6, 5, 4, 2, 1] [102, 101, 1, 0] rfl rfl
   try dsimp only [List.map, xD, xE, xT, xU, ldSF, rCell, rInt] at hS
   refine then_n (wp_ret (then_r (block_r (then_r (block_r ?_)))))
   refine ret_G1 hG hS rfl (.tmp rfl (.tmp rfl .nil)) (.two (.int hg) (.bool hg2)) rfl
  have h1 : ¬ j = tSize l := by simpa using hc1
  refine wp_skip (then_n (wp_seq ?_))
  refine region_q hS
    (cF rfl (oM .t) r1 trivial
    (cF rfl (oM .t) r1 trivial
    (cF rfl (o_lss .t .t) r2 trivial
    Chain.nil)))
    hB ?_
  clear hS; intro a w F hS
  obtain ⟨F, hS⟩ := hS.nm [32, 31, 30, 27, 26, 25, 24, 23, 22, 21, 20, 7, 6, 5, 4, 2, 1] [102, 101, 1, 0] rfl rfl
  try dsimp only [rCell, rInt] at hS
  refine then_n ?_
  refine cond_b hS rfl (fun hc2 => ?_) (fun hc2 => ?_)
  ·skip
   have h2 : j < tSize l := by simpa using hc2
   obtain ⟨t2, ht2⟩ : ∃ t2, t2 = l := ⟨_, rfl⟩
   obtain ⟨i2, hi2⟩ : ∃ i2, i2 = (getC q i).left := ⟨_, rfl⟩
   have hC2 : Rep kz q t2 i2 ∧ 0 ≤ j ∧ j < tSize t2 ∧ Go.Gm.nth (tVals t2) (j).toNat = Go.Gm.nth (tVals t0) k.toNat ∧ tSize t2 ≤ 1000000 := ⟨by rw [ht2, hi2]; exact hr.2.1, hj, by rw [ht2]; exact h2, by rw [← hk, ht2, tVals_nth_l hj h2], by rw [ht2]; omega⟩
   have hmu : (tSize t2).toNat < (tSize t).toNat := by rw [ht, ht2]; show _ < (tSize l + tSize r + 1).toNat; omega
   refine region_q hS
     (cF rfl (oL true 2 101 .is) r1 r1
     (cF rfl (oF 0 102 .is) r1 r1
     (cF rfl (oL false 1 102 .adr) r1 r1
     (cF rfl (o_callG1 1 (scell_c o room q root (getC q i).left) Try.func87 rfl (by kernel_rfl) (Args.two (.pagg .t) .t)) r2 r1
     (cF rfl (oA 6 102 .is (.conv .t .agg)) r2 r1
     Chain.nil)))))
     hB ?_
   clear hS; intro a w F hS
   obtain ⟨F, hS⟩ := hS.nm [36, 35, 34, 33, 32, 31, 30, 27, 26, 25, 24, 23, 22, 21, 20, 7, 6, 5, 4, 2, 1] [102, 101, 1, 0] rfl rfl
   try dsimp only [List.map, stCells, xL, xM, Nat.reduceAdd, xD, xE, xT, xU, xC, xN, zCF, ldSF, rCell, rInt] at hS
   rw [← hi2] at hS
   refine block_n (then_n ?_)
   obtain ⟨F, hS⟩ := hS.nm [6, 5, 4, 2, 1] [101, 1, 0, 102] rfl rfl
   exact ⟨((i2), _, (t2)), F, hC2, hS, hmu⟩
  have h2 : ¬ j < tSize l := by simpa using hc2
  have hw : IntKind.wrap .i64 (j - IntKind.wrap .i64 (tSize l + 1)) = j - (tSize l + 1) := by rw [wrap_i64 (x := tSize l + 1) (by omega), wrap_i64 (by omega)]
  obtain ⟨t2, ht2⟩ : ∃ t2, t2 = r := ⟨_, rfl⟩
  obtain ⟨i2, hi2⟩ : ∃ i2, i2 = (getC q i).right := ⟨_, rfl⟩
  have hC2 : Rep kz q t2 i2 ∧ 0 ≤ j - (tSize l + 1) ∧ j - (tSize l + 1) < tSize t2 ∧ Go.Gm.nth (tVals t2) (j - (tSize l + 1)).toNat = Go.Gm.nth (tVals t0) k.toNat ∧ tSize t2 ≤ 1000000 := ⟨by rw [ht2, hi2]; exact hr.2.2.1, by omega, by rw [ht2]; omega, by rw [← hk, ht2, tVals_nth_r (by omega) (by show j < tSize l + tSize r + 1; omega)], by rw [ht2]; omega⟩
  have hmu : (tSize t2).toNat < (tSize t).toNat := by rw [ht, ht2]; show _ < (tSize l + tSize r + 1).toNat; omega
  refine wp_seq ?_
  refine region_q hS
    (cF rfl (oM .t) r1 trivial
    (cF rfl (oM .t) r1 trivial
    (cF rfl (o_add .t (.ci (by kernel_rfl))) r1 trivial
    (cF rfl (o_sub .t .t) r2 trivial
    (cF rfl (oN .t) r1 trivial
    Chain.nil)))))
    hB ?_
  clear hS; intro a w F hS
  obtain ⟨F, hS⟩ := hS.nm [40, 39, 38, 37, 32, 31, 30, 27, 26, 25, 24, 23, 22, 21, 20, 7, 6, 5, 4, 2, 1] [102, 101, 1, 0] rfl rfl
  try dsimp only [rCell, rInt] at hS
  rw [hw] at hS
  refine then_n ?_
  refine region_q hS
    (cF rfl (oL true 2 101 .is) r1 r1
    (cF rfl (oF 1 102 .is) r1 r1
    (cF rfl (oL false 1 102 .adr) r1 r1
    (cF rfl (o_callG1 1 (scell_c o room q root (getC q i).right) Try.func87 rfl (by kernel_rfl) (Args.two (.pagg .t) .t)) r2 r1
    (cF rfl (oA 6 102 .is (.conv .t .agg)) r2 r1
    Chain.nil)))))
    hB ?_
  clear hS; intro a w F hS
  obtain ⟨F, hS⟩ := hS.nm [44, 43, 42, 41, 40, 39, 38, 37, 32, 31, 30, 27, 26, 25, 24, 23, 22, 21, 20, 7, 6, 5, 4, 2, 1] [102, 101, 1, 0] rfl rfl
  try dsimp only [List.map, stCells, xL, xM, Nat.reduceAdd, xD, xE, xT, xU, xC, xN, zCF, ldSF, rCell, rInt] at hS
  rw [← hi2] at hS
  refine block_n (then_n ?_)
  obtain ⟨F, hS⟩ := hS.nm [6, 5, 4, 2, 1] [101, 1, 0, 102] rfl rfl
  exact ⟨((i2), _, (t2)), F, hC2, hS, hmu⟩

end Go.Proofs.Ytdfidiehkkbimaa
