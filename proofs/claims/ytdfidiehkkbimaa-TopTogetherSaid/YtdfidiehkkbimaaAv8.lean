/- Maps: List. No condition beyond those that each theorem says. -/
import Derived.Test.YtdfidiehkkbimaaAv6
namespace Go.Proofs.Ytdfidiehkkbimaa
open Go Go.Gm
set_option linter.unusedVariables false
set_option linter.unusedSimpArgs false
set_option maxHeartbeats 4000000
set_option maxRecDepth 8000


theorem o_fieldAddr_row {P : Program} {d : Option Nat} {ty : TypeId} {pos : String} {af : Array Edge} {g : Option (Nat × Bool)} {x : Operand} {ps : List (Nat × SF)} {a : Anc} {α : Type} {R : α → List PV} {l : List α} {T sz i : Nat} {s : TypeId} {f off : Nat} (n : Nat) (hx : Opd x ps (.adr a (i * sz))) (hi : i < l.length) (ho : P.fieldOff s f = some off) (hd : depOk d (.adr a (i * sz + off)) = true) :
    OpC P ⟨d, .fieldAddr s x f, ty, pos, af, g⟩ ⟨ps, [(n, .ob a (rowH T sz R l))], .adr a (i * sz + off), []⟩ :=
  OpC.read fun act w F hp hr => by
    obtain ⟨xs, h2, h3, h4⟩ := hr (n, .ob a (rowH T sz R l)) (by simp)
    obtain ⟨ad, cap, e1, h5, h6, h7⟩ := row_shape h2
    rcases h7 with h7 | ⟨b, rfl, _, _⟩
    · omega
    · have ev : a.v (Act.tau act) = .slice (some ⟨b, 0, none⟩) l.length cap := e1
      have e2 : act.eval x = .pointer (some ⟨b, i * sz, none⟩) := by
        have := hx act w (U F) hp
        simp only [SF.holds, ev, shift, Nat.zero_add] at this
        exact this
      refine ⟨.pointer (some ⟨b, i * sz + off, none⟩), by simp [execOp, e2, run_fieldAt ho], fun τ' ht => depOk_mono (w := w) (y := U F) hd ht ?_⟩
      simp [SF.holds, ev, shift]
/-- What waits on the stack: a pair each, and the tree behind it. -/
def stL (kf : Int → Int) : List (Cell × Tree) → List PairD
  | [] => []
  | e :: st => stL kf st ++ pairOf kf e.1 :: tList e.2
def stM : List (Cell × Tree) → Int
  | [] => 0
  | e :: st => stM st + (2 * tSize e.2 + 1)
theorem stL_snoc {kf : Int → Int} (e : Cell × Tree) : ∀ st : List (Cell × Tree), stL kf (st ++ [e]) = pairOf kf e.1 :: (tList e.2 ++ stL kf st)
  | [] => by simp [stL]
  | x :: st => by rw [List.cons_append, stL, stL_snoc e st, stL]; simp
theorem stM_snoc (e : Cell × Tree) : ∀ st : List (Cell × Tree), stM (st ++ [e]) = stM st + (2 * tSize e.2 + 1)
  | [] => by simp [stM]
  | x :: st => by rw [List.cons_append, stM, stM_snoc e st, stM]; omega
theorem stM_nn : ∀ st : List (Cell × Tree), 0 ≤ stM st
  | [] => Int.le_refl _
  | x :: st => by have := stM_nn st; have := tSize_nn x.2; rw [stM]; omega
theorem stL_len {kf : Int → Int} : ∀ st : List (Cell × Tree), st.length ≤ (stL kf st).length
  | [] => by simp [stL]
  | x :: st => by have := stL_len (kf := kf) st; rw [stL]; simp; omega
theorem snoc_of {α : Type} {l : List α} (h : 0 < l.length) : ∃ l' e, l = l' ++ [e] := by
  have : l ≠ [] := fun h' => by rw [h'] at h; simp at h
  exact ⟨l.dropLast, l.getLast this, (List.dropLast_concat_getLast this).symm⟩
theorem nth_snoc {α : Type} [Inhabited α] (l : List α) (e : α) : Go.Gm.nth (l ++ [e]) l.length = e := by rw [nth_eq (by simp)]; simp

theorem mList_c (o : Option Nat) (room : Int) (q : List Cell) (root : Int) (t0 : Tree) (hr0 : Rep id q t0 root) (hs : tSize t0 ≤ 1000000) : FnG Try.prog 45 1 [.agg [.is (arV o), .int .i64 root]] [arH o room q] (.sl rPair (tList t0)) (fun _ => [arH o room q]) := by
  refine FnG.mk Try.func45 rfl Try.ntmps45 rfl (by kernel_rfl) ?_
  intro B F0 a w F hB hG hS
  refine wp_seq ?_
  refine region_q hS
    (cF rfl (oX 101 (.conv .t .agg)) r1 trivial
    (cF rfl (oN (.c rfl)) trivial trivial
    Chain.nil))
    hB ?_
  clear hS; intro a w F hS
  replace hS := hS.sub
  obtain ⟨F, hS⟩ := hS.nm [2, 1] [101, 1, 0] rfl rfl
  try dsimp only [RS.sub, SF.sub, CF.sub, csub, Anc.sub, List.map, zCF, rCell, rPair] at hS
  generalize Act.tau a 1 = v1 at hS
  refine then_n (wp_seq ?_)
  refine region_q hS
    (cF rfl (oN (.c rfl)) trivial trivial
    Chain.nil)
    hB ?_
  clear hS; intro a w F hS
  obtain ⟨F, hS⟩ := hS.nm [3, 2, 1] [101, 1, 0] rfl rfl
  try dsimp only [rCell, rPair] at hS
  refine then_n (wp_seq ?_)
  refine region_q hS
    (cF rfl (oN (.c rfl)) trivial trivial
    Chain.nil)
    hB ?_
  clear hS; intro a w F hS
  obtain ⟨F, hS⟩ := hS.nm [4, 3, 2, 1] [101, 1, 0] rfl rfl
  try dsimp only [rCell, rPair] at hS
  refine then_n (wp_seq (wp_seq ?_))
  refine region_q hS
    (cF rfl (oF 1 101 .is) r1 r1
    (cF rfl (oL false 1 101 .adr) r1 r1
    (cF rfl (oN .t) r1 trivial
    Chain.nil)))
    hB ?_
  clear hS; intro a w F hS
  obtain ⟨F, hS⟩ := hS.nm [5, 4, 3, 2, 1] [101, 1, 0] rfl rfl
  try dsimp only [List.map, xD, xE, xT, xU, ldSF, rCell, rPair] at hS
  refine then_n (wp_block ?_)
  replace hS := hS.fresh 50 rfl
  replace hS := hS.turn 50 rfl (nilRow (T := 83) (sz := 2) (R := rPair))
  replace hS := hS.fresh 51 rfl
  replace hS := hS.turn 51 rfl (nilRow (T := 153) (sz := 6) (R := rCell))
  refine loop_keep (σ := Int × Tree × List (Cell × Tree) × Value × List PairD × Value × List Cell) [1, 2] [0, 1, 101] (fun s => [(5, .pv (.int .i64 s.1)), (3, .pv (.is s.2.2.2.1)), (4, .pv (.is s.2.2.2.2.2.1))]) (fun s => [(50, .ob (.val s.2.2.2.1) (rowH 83 2 rPair s.2.2.2.2.1)), (51, .ob (.val s.2.2.2.2.2.1) (rowH 153 6 rCell s.2.2.2.2.2.2))]) (fun s => Rep id q s.2.1 s.1 ∧ (∀ e ∈ s.2.2.1, Rep id q e.2 e.1.right) ∧ s.2.2.2.2.2.2 = s.2.2.1.map Prod.fst ∧ s.2.2.2.2.1 ++ (tList s.2.1 ++ stL id s.2.2.1) = tList t0) (fun s => (2 * tSize s.2.1 + stM s.2.2.1).toNat) ((root), (t0), ([]), (.slice none 0 0), ([]), (.slice none 0 0), ([])) hS ⟨rfl, rfl, rfl, rfl, rfl, trivial⟩ ⟨rfl, rfl, rfl, rfl, rfl, trivial⟩ ⟨hr0, fun e he => by simp at he, rfl, by simp [stL]⟩ ?_
  clear hS; intro s a w F hC hS
  obtain ⟨i, t, st, v, out, wv, wt⟩ := s
  try dsimp only at hC
  obtain ⟨F, hS⟩ := hS.nm [5, 4, 3, 2, 1] [101, 51, 50, 1, 0] rfl rfl
  try dsimp only at hS
  obtain ⟨hr, hst, hwt, hk⟩ := hC
  have hkl := congrArg List.length hk
  simp only [List.length_append] at hkl
  have hsl := stL_len (kf := id) st
  have hwl := congrArg List.length hwt
  rw [List.length_map] at hwl
  have hnn := stM_nn st
  have hsz := tSize_list t0
  refine wp_seq (wp_seq ?_)
  refine region_q hS
    (cF rfl (oM .t) r1 trivial
    (cF rfl (o_gtr .t (.ci (by kernel_rfl))) r1 trivial
    (cF rfl (oM .t) r1 trivial
    (Chain.cons (Cert.cond rfl rfl (fun h => o_move .t (by rfl))) r2 trivial
    (Chain.cons (Cert.cond rfl rfl (fun h => o_len_row 51 Try.underlying160 (.w h .is))) r2 r1
    (Chain.cons (Cert.cond rfl rfl (fun h => o_gtr (.w h) (.ci (by kernel_rfl)))) r2 trivial
    (cF rfl (o_or2 .t .t) r2 trivial
    Chain.nil)))))))
    hB ?_
  clear hS; intro a w F hS
  obtain ⟨F, hS⟩ := hS.nm [15, 14, 13, 12, 11, 10, 9, 5, 4, 3, 2, 1] [101, 51, 50, 1, 0] rfl rfl
  try dsimp only [rCell, rPair] at hS
  refine then_n ?_
  refine cond_b hS rfl (fun hc0 => ?_) (fun hc0 => ?_)
  ·skip
   have hgo : 0 < i ∨ 0 < wt.length := by simp only [Bool.or_eq_true, decide_eq_true_eq] at hc0; omega
   refine wp_skip (then_n (wp_block (wp_seq (wp_seq ?_))))
   refine region_q hS
     (cF rfl (oM .t) r1 trivial
     (cF rfl (o_gtr .t (.ci (by kernel_rfl))) r1 trivial
     Chain.nil))
     hB ?_
   clear hS; intro a w F hS
   obtain ⟨F, hS⟩ := hS.nm [17, 16, 15, 14, 13, 12, 11, 10, 9, 5, 4, 3, 2, 1] [101, 51, 50, 1, 0] rfl rfl
   try dsimp only [rCell, rPair] at hS
   refine then_n ?_
   refine cond_b hS rfl (fun hc1 => ?_) (fun hc1 => ?_)
   ·skip
    have hi : 0 < i := by simpa using hc1
    obtain ⟨l, x, r, ht⟩ := hr.node (show i ≠ 0 by omega)
    rw [ht] at hr hk
    have hkx := hr.2.2.2.1
    have hnp : IntKind.wrap .i64 (((wt ++ [getC q i]).length : Int) - 1) = (wt.length : Int) := by rw [List.length_append, List.length_singleton, wrap_i64 (by have := tSize_list t0; omega)]; omega
    obtain ⟨t2, ht2⟩ : ∃ t2, t2 = l := ⟨_, rfl⟩
    obtain ⟨st2, hs2⟩ : ∃ st2, st2 = st ++ [(getC q i, r)] := ⟨_, rfl⟩
    have hmu : (2 * tSize t2 + stM st2).toNat < (2 * tSize t + stM st).toNat := by rw [ht, hs2, ht2, stM_snoc]; have := tSize_nn l; have := tSize_nn r; show (2 * tSize l + (stM st + (2 * tSize r + 1))).toNat < (2 * (tSize l + tSize r + 1) + stM st).toNat; omega
    have hC2 : Rep id q t2 (getC q i).left ∧ (∀ e ∈ st2, Rep id q e.2 e.1.right) ∧ wt ++ [getC q i] = st2.map Prod.fst ∧ out ++ (tList t2 ++ stL id st2) = tList t0 := ⟨by rw [ht2]; exact hr.2.1, fun e he => by rw [hs2] at he; rcases List.mem_append.1 he with he | he; (· exact hst e he); (· rw [List.mem_singleton.1 he]; exact hr.2.2.1), by rw [hs2, hwt]; simp, by rw [← hk, ht2, hs2, stL_snoc, hr.pair]; simp [tList]⟩
    refine wp_seq ?_
    refine region_q hS
      (cF rfl (oM .t) r1 trivial
      (cF rfl (oL true 2 101 .is) r1 r1
      (cF rfl (oM .t) r1 trivial
      (cF rfl (o_callG1 1 (mcell_c o room q root i) Try.func93 rfl (by kernel_rfl) (Args.two (.pagg .t) .t)) r2 r1
      (cF rfl (o_buildSliceE (sz := 6) (zs := [.int .i64 0, .int .i64 0, .int .i64 0, .int .i64 0, .int .i64 0, .int .i64 0]) (r := [(0, .tmp 21)]) (l := [_, _, _, _, _, _]) Try.underlying160 (by kernel_rfl) (by kernel_rfl) (by kernel_rfl) (by kernel_rfl) rfl rfl (.agg rfl (.conv .t .agg) (by kernel_rfl) (by kernel_rfl) .nil) rfl) r1 trivial
      (cF rfl (o_append (sz := 6) (bs := 48) 51 (.mk' Try.underlying160 (by kernel_rfl) (by kernel_rfl)) (by intro x; rfl) .is (.arr (l' := [getC q i]) .t) (by simp only [List.length_append, List.length_cons, List.length_nil]; have := tSize_list t0; omega) (by decide)) ⟨rfl, rfl, trivial⟩ ⟨rfl, trivial⟩
      (cF rfl (oN .t) r1 trivial
      Chain.nil)))))))
      hB ?_
    clear hS; intro a w F hS
    replace hS := hS.sub
    obtain ⟨F, hS⟩ := hS.nm [23, 22, 21, 20, 19, 18, 17, 16, 15, 14, 13, 12, 11, 10, 9, 5, 4, 3, 2, 1] [101, 51, 50, 1, 0] rfl rfl
    try dsimp only [RS.sub, SF.sub, CF.sub, csub, Anc.sub, List.map, stCells, xL, xM, Nat.reduceAdd, xD, xE, xT, xU, xC, xN, zCF, ldSF, rCell, rPair] at hS
    generalize Act.tau a 23 = v23 at hS
    refine then_n (wp_seq ?_)
    refine region_q hS
      (cF rfl (oM .t) r1 trivial
      (cF rfl (oM .t) r1 trivial
      (cF rfl (o_len_row 51 Try.underlying160 .is) r1 r1
      (cF rfl (o_sub .t (.ci (by kernel_rfl))) r1 trivial
      (cF rfl (o_indexAddr_row (sz := 6) 51 (.mk Try.underlying160 (by kernel_rfl)) .is .t (by omega) (by rw [hnp, List.length_append, List.length_singleton]; omega) (by rfl)) r2 r1
      (cF rfl (o_fieldAddr_row (off := 0) (sz := 6) 51 .t (by rw [hnp, List.length_append, List.length_singleton, Int.toNat_natCast]; omega) (by kernel_rfl) (by rfl)) r1 r1
      (cF rfl (o_load_row (ag := false) (sz' := 1) (sz := 6) 51 .t (by intro x; rfl) (by rw [hnp, List.length_append, List.length_singleton, Int.toNat_natCast]; omega) (by kernel_rfl) (by kernel_rfl) (by kernel_rfl)) r1 r1
      (cF rfl (oN .t) r1 trivial
      Chain.nil))))))))
      hB ?_
    clear hS; intro a w F hS
    obtain ⟨F, hS⟩ := hS.nm [30, 29, 28, 27, 26, 25, 24, 23, 22, 21, 20, 19, 18, 17, 16, 15, 14, 13, 12, 11, 10, 9, 5, 4, 3, 2, 1] [101, 51, 50, 1, 0] rfl rfl
    try dsimp only [List.map, xD, xE, xT, xU, ldSF, rCell, rPair] at hS
    try simp only [Int.toNat_natCast] at hS
    rw [hnp, Int.toNat_natCast, nth_snoc] at hS
    refine then_n (wp_exit (then_x (block_x (then_n ?_))))
    obtain ⟨F, hS⟩ := hS.nm [2, 1, 4, 3, 5] [101, 1, 0, 51, 50] rfl rfl
    exact ⟨(_, (t2), (st2), _, _, _, _), F, hC2, hS, hmu⟩
   have hi : ¬ 0 < i := by simpa using hc1
   have hx := hr.range
   have h0 : i = 0 := by omega
   rw [h0] at hr
   have hz : t = .nil := hr.zero
   obtain ⟨st2, e, hse⟩ := snoc_of (l := st) (by omega)
   have hwe : wt = st2.map Prod.fst ++ [e.1] := by rw [hwt, hse]; simp
   have hw2 : wt.length = st2.length + 1 := by rw [hwl, hse]; simp
   have hnw : IntKind.wrap .i64 ((wt.length : Int) - 1) = (st2.length : Int) := by rw [wrap_i64 (by omega)]; omega
   have hcut0 : 0 ≤ IntKind.wrap .i64 ((wt.length : Int) - 1) := by omega
   have hcut1 : IntKind.wrap .i64 ((wt.length : Int) - 1) ≤ wt.length := by omega
   have hne : Go.Gm.nth wt st2.length = e.1 := by rw [hwe]; have := nth_snoc (st2.map Prod.fst) e.1; rwa [List.length_map] at this
   have htk : wt.take st2.length = st2.map Prod.fst := by rw [hwe, show st2.length = (st2.map Prod.fst).length by simp, List.take_left]
   obtain ⟨t2, ht2⟩ : ∃ t2, t2 = e.2 := ⟨_, rfl⟩
   have hmu : (2 * tSize t2 + stM st2).toNat < (2 * tSize t + stM st).toNat := by rw [hz, hse, ht2, stM_snoc]; have := tSize_nn e.2; have := stM_nn st2; show (2 * tSize e.2 + stM st2).toNat < (2 * 0 + (stM st2 + (2 * tSize e.2 + 1))).toNat; omega
   have hC2 : Rep id q t2 e.1.right ∧ (∀ e ∈ st2, Rep id q e.2 e.1.right) ∧ st2.map Prod.fst = st2.map Prod.fst ∧ (out ++ [(⟨e.1.key, e.1.val⟩ : PairD)]) ++ (tList t2 ++ stL id st2) = tList t0 := ⟨by rw [ht2]; exact hst e (by rw [hse]; simp), fun x hx => hst x (by rw [hse]; simp [hx]), rfl, by rw [← hk, hz, hse, ht2, stL_snoc]; simp [tList, pairOf]⟩
   have hol : out.length ≤ 1000000 := by have := tSize_list t0; omega
   refine wp_skip (then_n (wp_seq ?_))
   refine region_q hS
     (cF rfl (oM .t) r1 trivial
     (cF rfl (oM .t) r1 trivial
     (cF rfl (o_len_row 51 Try.underlying160 .is) r1 r1
     (cF rfl (o_sub .t (.ci (by kernel_rfl))) r1 trivial
     (cF rfl (o_indexAddr_row (sz := 6) 51 (.mk Try.underlying160 (by kernel_rfl)) .is .t (by omega) (by omega) (by rfl)) r2 r1
     (cF rfl (o_load_row0 (ag := true) (sz' := 6) (sz := 6) 51 .t (by intro x; rfl) (by rw [hnw, Int.toNat_natCast]; omega) (by kernel_rfl) (by kernel_rfl) (by kernel_rfl)) r1 r1
     (cF rfl (oH [.int .i64 0, .int .i64 0, .int .i64 0, .int .i64 0, .int .i64 0, .int .i64 0] 102) trivial trivial
     (cF rfl (oA 6 102 .same .t) r2 r1
     Chain.nil))))))))
     hB ?_
   clear hS; intro a w F hS
   replace hS := hS.sub
   obtain ⟨F, hS⟩ := hS.nm [36, 35, 34, 33, 32, 31, 17, 16, 15, 14, 13, 12, 11, 10, 9, 6, 5, 4, 3, 2, 1] [102, 101, 51, 50, 1, 0] rfl rfl
   try dsimp only [RS.sub, SF.sub, CF.sub, csub, Anc.sub, List.map, stCells, xL, xM, Nat.reduceAdd, xD, xE, xT, xU, xC, xN, zCF, ldSF, rCell, rPair] at hS
   generalize Act.tau a 6 = v6 at hS
   try simp only [Int.toNat_natCast] at hS
   rw [hnw, Int.toNat_natCast, hne] at hS
   refine then_n (wp_seq ?_)
   refine region_q hS
     (cF rfl (oM .t) r1 trivial
     (cF rfl (oM .t) r1 trivial
     (cF rfl (o_len_row 51 Try.underlying160 .is) r1 r1
     (cF rfl (o_sub .t (.ci (by kernel_rfl))) r1 trivial
     (cF rfl (o_cut_row (sz := 6) 51 (.mk Try.underlying160 (by kernel_rfl)) (by intro x; rfl) .is .t (by assumption) (by assumption)) r2 r1
     (cF rfl (oN .t) r1 trivial
     Chain.nil))))))
     hB ?_
   clear hS; intro a w F hS
   replace hS := hS.sub
   obtain ⟨F, hS⟩ := hS.nm [41, 40, 39, 38, 37, 36, 35, 34, 33, 32, 31, 17, 16, 15, 14, 13, 12, 11, 10, 9, 6, 5, 4, 3, 2, 1] [102, 101, 51, 50, 1, 0] rfl rfl
   try dsimp only [RS.sub, SF.sub, CF.sub, csub, Anc.sub, List.map, rCell, rPair] at hS
   generalize Act.tau a 41 = v41 at hS
   rw [hnw, Int.toNat_natCast, htk] at hS
   refine then_n (wp_seq ?_)
   refine region_q hS
     (cF rfl (oM .t) r1 trivial
     (cF rfl (oF 2 102 .is) r1 r1
     (cF rfl (oL false 1 102 .adr) r1 r1
     (cF rfl (oF 3 102 .is) r1 r1
     (cF rfl (oL false 1 102 .adr) r1 r1
     (cF rfl (oB [(0, .tmp 44), (1, .tmp 46)] [.int .i64 0, .int .i64 0] [(0, 1), (1, 1)] (.one rfl .t one_int (by kernel_rfl) (.one rfl .t one_int (by kernel_rfl) .nil))) r2 trivial
     (cF rfl (o_buildSliceE (sz := 2) (zs := [.int .i64 0, .int .i64 0]) (r := [(0, .tmp 47)]) (l := [_, _]) Try.underlying78 (by kernel_rfl) (by kernel_rfl) (by kernel_rfl) (by kernel_rfl) rfl rfl (.agg rfl .t (by kernel_rfl) (by kernel_rfl) .nil) rfl) r1 trivial
     (cF rfl (o_append (sz := 2) (bs := 16) 50 (.mk' Try.underlying78 (by kernel_rfl) (by kernel_rfl)) (by intro x; rfl) .is (.arr (l' := [(⟨e.1.key, e.1.val⟩ : PairD)]) .t) (by simp only [List.length_append, List.length_cons, List.length_nil]; have := tSize_list t0; omega) (by decide)) ⟨rfl, rfl, trivial⟩ ⟨rfl, trivial⟩
     (cF rfl (oN .t) r1 trivial
     Chain.nil)))))))))
     hB ?_
   clear hS; intro a w F hS
   replace hS := hS.sub
   obtain ⟨F, hS⟩ := hS.nm [49, 48, 47, 46, 45, 44, 43, 42, 41, 40, 39, 38, 37, 36, 35, 34, 33, 32, 31, 17, 16, 15, 14, 13, 12, 11, 10, 9, 6, 5, 4, 3, 2, 1] [102, 101, 51, 50, 1, 0] rfl rfl
   try dsimp only [RS.sub, SF.sub, CF.sub, csub, Anc.sub, List.map, stCells, xL, xM, Nat.reduceAdd, xD, xE, xT, xU, xC, xN, zCF, ldSF, rCell, rPair] at hS
   generalize Act.tau a 49 = v49 at hS
   refine then_n ?_
   refine region_q hS
     (cF rfl (oF 1 102 .is) r1 r1
     (cF rfl (oL false 1 102 .adr) r1 r1
     (cF rfl (oN .t) r1 trivial
     Chain.nil)))
     hB ?_
   clear hS; intro a w F hS
   obtain ⟨F, hS⟩ := hS.nm [51, 50, 49, 48, 47, 46, 45, 44, 43, 42, 41, 40, 39, 38, 37, 36, 35, 34, 33, 32, 31, 17, 16, 15, 14, 13, 12, 11, 10, 9, 6, 5, 4, 3, 2, 1] [102, 101, 51, 50, 1, 0] rfl rfl
   try dsimp only [List.map, xD, xE, xT, xU, ldSF, rCell, rPair] at hS
   refine block_n (then_n ?_)
   obtain ⟨F, hS⟩ := hS.nm [2, 1, 4, 3, 5] [101, 1, 0, 51, 50] rfl rfl
   exact ⟨(_, (t2), (st2), _, _, _, _), F, hC2, hS, hmu⟩
  have hstop : ¬ 0 < i ∧ wt.length = 0 := by simp only [Bool.or_eq_false_iff, decide_eq_false_iff_not] at hc0; omega
  have hx := hr.range
  have h0 : i = 0 := by omega
  rw [h0] at hr
  have hfin : out = tList t0 := by rw [← hk, hr.zero, List.eq_nil_of_length_eq_zero (show st.length = 0 by omega)]; simp [tList, stL]
  refine wp_exit (then_x (then_x (block_x (then_n (wp_seq ?_)))))
  refine region_q hS
    (cF rfl (oM .t) r1 trivial
    (cF rfl (oN .t) r1 trivial
    Chain.nil))
    hB ?_
  clear hS; intro a w F hS
  obtain ⟨F, hS⟩ := hS.nm [2] [51, 50, 1, 0] rfl rfl
  try dsimp only [rCell, rPair] at hS
  refine then_n (wp_ret ?_)
  obtain ⟨F, hS⟩ := hS.give 50 2 rfl rfl
  refine ret_G1 hG hS rfl (.tmp rfl .nil) (.one (.sl (by rw [hfin]))) rfl

end Go.Proofs.Ytdfidiehkkbimaa
