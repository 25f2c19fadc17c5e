/- Maps against the document: one deed. No condition beyond those that each theorem says. -/
import Derived.Test.YtdfpljecogijaaaAvE
namespace Go.Proofs.Ytdfpljecogijaaa
open Go Go.Gm
set_option linter.unusedVariables false
set_option linter.unusedSimpArgs false
set_option maxHeartbeats 4000000
set_option maxRecDepth 8000


theorem getL_has (k : Int) : ∀ l : List PairD, (getL k l).2 = hasP l k
  | [] => rfl
  | p :: l => by
    rw [getL]
    have := getL_has k l
    unfold hasP at this ⊢
    rw [List.any_cons]
    split <;> rename_i h
    · simp [h]
    · rw [this]; simp [h]
theorem MapOk.has {q : List Cell} {t : Tree} {root : Int} (h : MapOk q t root) (k : Int) : (lookT k t).2 = hasP (tList t) k := by rw [lookT_list k h.inc, getL_has]
theorem MapOk.move {t : Tree} (h : Inc (tList t)) (hs : tSize t ≤ 1000000) (room : Int) :
    (∃ (e : List Cell) (r : Int), moveM room [] t = (e, 0, r) ∧ MapOk e (allT ((tList t).length + 1) (tList t)) r ∧ e.length = (tList t).length) ∨ (moveM room [] t = ([], 2, 0) ∧ room < (tList t).length) := by
  have hl := tSize_list t
  rcases toldM_good (allS_good (kf := id) (room := room) ((tList t).length + 1) [] (tList t) (by omega) (by omega) (fun _ _ => rfl)) with ⟨e, e1, e2, e3, e4, e5⟩ | ⟨e1, e2⟩
  · refine .inl ⟨e, _, Prod.ext e1 (Prod.ext e2 rfl), ⟨e3, (allT_high _ _ (by omega)).2, ?_⟩, by omega⟩
    rw [allT_list _ _ (by omega)]; exact h
  · exact .inr ⟨e1, by simpa using e2⟩
/-- What a deed makes: the arena's cells, the map, its pairs; and the new arena, if there is one. -/
structure StepO where
  q : List Cell
  root : Int
  t : Tree
  l : List PairD
  mv : Option (Int × List Cell)
def stepPut (room : Int) (q : List Cell) (root : Int) (t : Tree) (l : List PairD) (k v : Int) : StepO :=
  if (putM room q ⟨k, v⟩ t root).2.1 = 2 then ⟨q, root, t, l, none⟩ else ⟨(putM room q ⟨k, v⟩ t root).1, (putM room q ⟨k, v⟩ t root).2.2, putT ⟨k, v⟩ t, putP l k v, none⟩
def stepDel (room : Int) (q : List Cell) (root : Int) (t : Tree) (l : List PairD) (k : Int) : StepO :=
  if hasP l k = false then ⟨q, root, t, l, none⟩ else if (delM room q k t root).2.1 = 2 then ⟨q, root, t, l, none⟩ else ⟨(delM room q k t root).1, (delM room q k t root).2.2, delT k t, delP l k, none⟩
def stepMove (q : List Cell) (root : Int) (t : Tree) (l : List PairD) (rm : Int) : StepO :=
  if (moveM rm [] t).2.1 = 2 then ⟨q, root, t, l, none⟩ else ⟨q, (moveM rm [] t).2.2, allT ((tList t).length + 1) (tList t), l, some (rm, (moveM rm [] t).1)⟩
def stepO (room : Int) (q : List Cell) (root : Int) (t : Tree) (l : List PairD) (d : DeedM) : StepO :=
  if d.kind = 0 ∨ d.kind = 1 ∨ d.kind = 2 then stepPut room q root t l d.key d.val else if d.kind = 3 then stepDel room q root t l d.key else if d.kind = 4 then stepMove q root t l (refRoom d.val) else ⟨q, root, t, l, none⟩
/-- A map that has just some pairs. -/
def OneOk (q : List Cell) (root : Int) (t : Tree) (l : List PairD) (n : Int) : Prop := MapOk q t root ∧ tList t = l ∧ tSize t ≤ n
theorem OneOk.app {q e : List Cell} {root : Int} {t : Tree} {l : List PairD} {n m : Int} (h : OneOk q root t l n) (hm : n ≤ m) : OneOk (q ++ e) root t l m := ⟨h.1.app, h.2.1, Int.le_trans h.2.2 hm⟩
def StepOk (q : List Cell) (n : Int) (o : StepO) : Prop :=
  (∃ e, o.q = q ++ e) ∧ match o.mv with
    | none => OneOk o.q o.root o.t o.l n
    | some (_, q2) => OneOk q2 o.root o.t o.l n
theorem stepO_ok {room : Int} {q : List Cell} {root : Int} {t : Tree} {l : List PairD} {n : Int} (h : OneOk q root t l n) (hn : n < 1000000) (d : DeedM) : StepOk q (n + 1) (stepO room q root t l d) := by
  have same : StepOk q (n + 1) ⟨q, root, t, l, none⟩ := ⟨⟨[], by simp⟩, h.1, h.2.1, by have := h.2.2; show tSize t ≤ n + 1; omega⟩
  have hs := h.2.2
  unfold stepO
  split
  · unfold stepPut
    split
    · exact same
    · rename_i h1
      rcases h.1.put (room := room) d.key d.val (by omega) with ⟨e, r, hM, hk, he⟩ | ⟨hM, _⟩
      · rw [hM]
        have := putT_size ⟨d.key, d.val⟩ t
        exact ⟨⟨e, rfl⟩, hk, by show tList (putT _ t) = putP l d.key d.val; rw [putT_list _ h.1.inc, h.2.1], by show tSize (putT _ t) ≤ _; omega⟩
      · rw [hM] at h1; exact absurd rfl h1
  · split
    · unfold stepDel
      split
      · exact same
      · rename_i h1
        split
        · exact same
        · rename_i h2
          rcases h.1.del (room := room) d.key (by omega) with ⟨h3, _⟩ | ⟨h3, ⟨e, r, hM, hk, he⟩ | ⟨hM, _⟩⟩
          · rw [h.1.has, h.2.1] at h3; simp at h1; rw [h1] at h3; exact absurd rfl h3
          · rw [hM]
            have := HasT_size2 h3
            exact ⟨⟨e, rfl⟩, hk, by show tList (delT _ t) = delP l d.key; rw [delT_list _ h.1.inc, h.2.1], by show tSize (delT _ t) ≤ _; omega⟩
          · rw [hM] at h2; exact absurd rfl h2
    · split
      · unfold stepMove
        split
        · exact same
        · rename_i h1
          rcases MapOk.move h.1.inc (by omega) (refRoom d.val) with ⟨e, r, hM, hk, he⟩ | ⟨hM, _⟩
          · rw [hM]
            have e1 := allT_list ((tList t).length + 1) (tList t) (by omega)
            refine ⟨⟨[], by simp⟩, hk, e1.trans h.2.1, ?_⟩
            rw [tSize_list, e1, ← tSize_list]; omega
          · rw [hM] at h1; exact absurd rfl h1
      · exact same
/-- What is owned behind a deed: the new arena, if there is one. -/
def stepK (o : StepO) (b b2 : Nat) : HP := match o.mv with
  | none => HP.and (b2 = b) (HP.star [])
  | some (rm, q2) => arH (some b2) rm q2
structure OneM where
  b : Nat
  j : Nat
  root : Int
  t : Tree
  l : List PairD
  deriving Inhabited
def rOneM (e : OneM) : List PV := [.is (arV (some e.b)), .int .i64 e.root, .is (arV (some e.b)), .sl rPair e.l]
theorem aRoom_c (b : Nat) (room : Int) (q : List Cell) : FnG Try.prog 38 1 [.is (arV (some b))] [arH (some b) room q] (.int .i64 (room - q.length)) (fun _ => [arH (some b) room q]) := arRoom_c b room q
theorem arH_ok {b : Nat} {room : Int} {q : List Cell} {w : World} {f y : Ys} (h : (arH (some b) room q).p w f y) : ArOk room q := by
  obtain ⟨_, _, h, _⟩ := h
  exact h
def atL (k : Int) (l : List PairD) : PairD := if 0 ≤ k ∧ k < l.length then Go.Gm.nth l k.toNat else default
theorem mGetL_c (o : Option Nat) (room : Int) (q : List Cell) (root k : Int) (t : Tree) (l : List PairD) (n : Int) (h : OneOk q root t l n) : FnG Try.prog 53 1 [.agg [.is (arV o), .int .i64 root], .int .i64 k] [arH o room q] (.tup [.int .i64 (getL k l).1, .bool (getL k l).2]) (fun _ => [arH o room q]) := by
  have := mget_c o room q root k t h.1.rep
  rwa [lookT_list k h.1.inc, h.2.1] at this
theorem mAtL2_c (o : Option Nat) (room : Int) (q : List Cell) (root k : Int) (t : Tree) (l : List PairD) (n : Int) (h : OneOk q root t l n) (hn : n ≤ 1000000) : FnG Try.prog 31 1 [.agg [.is (arV o), .int .i64 root], .int .i64 k] [arH o room q] (.tup [.agg (rPair (atL k l)), .bool (decide (0 ≤ k ∧ k < l.length))]) (fun _ => [arH o room q]) := by
  have := mat_c o room q root k t h.1.rep (by have := h.2.2; omega)
  have hsz := tSize_list t
  rw [h.2.1] at hsz
  have e : atR k t = (atL k l, decide (0 ≤ k ∧ k < l.length)) := by
    unfold atR atL
    by_cases hk : 0 ≤ k ∧ k < l.length
    · rw [if_pos (by omega), if_pos hk, atT_list hk.1 (by omega), h.2.1, decide_eq_true hk]
    · rw [if_neg (by omega), if_neg hk, decide_eq_false hk]
  rwa [e] at this
theorem mRankL2_c (o : Option Nat) (room : Int) (q : List Cell) (root k : Int) (t : Tree) (l : List PairD) (n : Int) (h : OneOk q root t l n) (hn : n ≤ 1000000) : FnG Try.prog 32 1 [.agg [.is (arV o), .int .i64 root], .int .i64 k] [arH o room q] (.int .i64 (rankL k l)) (fun _ => [arH o room q]) := by
  have := mRankL_c o room q root k t h.1 (by have := h.2.2; omega)
  rwa [h.2.1] at this

theorem step06_c (b : Nat) (room : Int) (q : List Cell) (root : Int) (t : Tree) (l : List PairD) (d : DeedM) (n : Int) (h1 : OneOk q root t l n) (hn : n ≤ 1000) (hqq : q.length ≤ 65536) : FnG Try.prog 22 2 [.agg [.is (arV (some b)), .int .i64 root, .is (arV (some b)), .sl rPair l], .agg (rDeedM d)] [arH (some b) room q, .star []] (PV.self fun v => .tup [.agg [.is (hdT v), .int .i64 (stepO room q root t l d).root, .is (hdT v), .sl rPair (stepO room q root t l d).l], .bool true]) (fun v => [arH (some b) room (stepO room q root t l d).q, HP.named (fun b => arV (some b)) (fun b2 => stepK (stepO room q root t l d) b b2) (hdT v)]) := by
  refine FnG.mk Try.func22 rfl Try.ntmps22 rfl (by kernel_rfl) ?_
  intro B F0 a w F hB hG hS
  obtain ⟨hk, hl, hs⟩ := h1
  have hsz := tSize_list t
  rw [hl] at hsz
  have hh := hk.high (by omega)
  obtain ⟨F, hS⟩ := hS.norm [(0, _), (1, _)] [(0, _), (1, _)] r2 r2
  refine wp_seq ?_
  refine region_seq hS (by kernel_rfl)
    (cF rfl (o_boxA 101 (.conv .t .agg) (by kernel_rfl)) r1 trivial
    (cF rfl (o_boxA 102 (.conv .t .agg) (by kernel_rfl)) r1 trivial
    (cF rfl (o_alloc (zs := [.pointer none, .int .i64 0, .pointer none, .slice none 0 0]) 103 (by kernel_rfl)) trivial trivial
    (cF rfl (o_assign .cb (by rfl)) trivial trivial
    Chain.nil))))
    (by kernel_rfl) (by rw [hB]; kernel_rfl) ?_
  clear hS; intro a w F hS
  replace hS := hS.sub
  obtain ⟨F, hS⟩ := hS.norm [(2, _), (3, _), (4, _), (5, _)] [(0, _), (1, _), (101, _), (102, _), (103, _)] r4 r5
  try dsimp only [RS.sub, SF.sub, CF.sub, csub, Anc.sub, List.map, zCF, rPair, rOneM, rDeedM] at hS
  generalize Act.tau a 2 = v2 at hS
  generalize Act.tau a 3 = v3 at hS
  generalize Act.tau a 4 = v4 at hS
  refine then_n ?_
  refine wp_seq ?_
  refine region_any (by kernel_rfl) hS (by kernel_rfl)
    (cF rfl (o_fieldAddr (off := 2) 101 .is (by kernel_rfl) (by rfl)) r1 r1
    (cF rfl (o_load (ag := false) (sz := 1) 101 .adr (by kernel_rfl) (by kernel_rfl) (by kernel_rfl) (by rfl)) r1 r1
    (cF rfl (o_callG1 1 (aRoom_c b room q) Try.func38 rfl (by kernel_rfl) (Args.one .t)) r1 r1
    (cF rfl (o_fieldAddr (off := 2) 101 .is (by kernel_rfl) (by rfl)) r1 r1
    (cF rfl (o_load (ag := false) (sz := 1) 101 .adr (by kernel_rfl) (by kernel_rfl) (by kernel_rfl) (by rfl)) r1 r1
    (cF rfl (o_callG1 1 (aLen_c (some b) room q) Try.func37 rfl (by kernel_rfl) (Args.one .t)) r1 r1
    (cF rfl (o_fieldAddr (off := 0) 101 .is (by kernel_rfl) (by rfl)) r1 r1
    (cF rfl (o_load (ag := true) (sz := 2) 101 .adr (by kernel_rfl) (by kernel_rfl) (by kernel_rfl) (by rfl)) r1 r1
    (cF rfl (o_callG1 1 (mhighT_c (some b) room q root t hk.rep) Try.func29 rfl (by kernel_rfl) (Args.one (.pagg .t))) r1 r1
    (cF rfl (o_assign .t (by rfl)) r1 trivial
    (cF rfl (o_assign .t (by rfl)) r1 trivial
    (cF rfl (o_assign .t (by rfl)) r1 trivial
    Chain.nil))))))))))))
    (by kernel_rfl) (by rw [hB]; kernel_rfl) ?_
  clear hS; intro a w F hS
  obtain ⟨F, hS⟩ := hS.norm [(2, _), (3, _), (4, _), (5, _), (6, _), (7, _), (8, _)] [(0, _), (1, _), (101, _), (102, _), (103, _)] r7 r5
  try dsimp only [List.map, List.drop_succ_cons, List.drop_zero, List.drop_nil, List.take_succ_cons, List.take_zero, List.take_nil, ldSF, rPair, rOneM, rDeedM] at hS
  refine then_n ?_
  refine wp_seq ?_
  refine region_seq hS (by kernel_rfl)
    (cF rfl (o_move .t (by rfl)) r1 trivial
    (cF rfl (o_move .t (by rfl)) r1 trivial
    (cF rfl (o_add .t (.ci (by kernel_rfl))) r1 trivial
    (cF rfl (o_mul (.ci (by kernel_rfl)) .t) r1 trivial
    (cF rfl (o_geq .t .t) r2 trivial
    (cF rfl (o_assign .t (by rfl)) r1 trivial
    Chain.nil))))))
    (by kernel_rfl) (by rw [hB]; kernel_rfl) ?_
  clear hS; intro a w F hS
  obtain ⟨F, hS⟩ := hS.norm [(2, _), (3, _), (4, _), (5, _), (7, _), (9, _)] [(0, _), (1, _), (101, _), (102, _), (103, _)] r6 r5
  try dsimp only [rPair, rOneM, rDeedM] at hS
  refine then_n ?_
  refine wp_seq ?_
  refine wp_seq ?_
  refine region_seq hS (by kernel_rfl)
    (cF rfl (o_fieldAddr (off := 0) 102 .is (by kernel_rfl) (by rfl)) r1 r1
    (cF rfl (o_load (ag := false) (sz := 1) 102 .adr (by kernel_rfl) (by kernel_rfl) (by kernel_rfl) (by rfl)) r1 r1
    Chain.nil))
    (by kernel_rfl) (by rw [hB]; kernel_rfl) ?_
  clear hS; intro a w F hS
  obtain ⟨F, hS⟩ := hS.norm [(2, _), (3, _), (4, _), (5, _), (7, _), (9, _), (34, _)] [(0, _), (1, _), (101, _), (102, _), (103, _)] r7 r5
  try dsimp only [List.map, List.drop_succ_cons, List.drop_zero, List.drop_nil, List.take_succ_cons, List.take_zero, List.take_nil, ldSF, rPair, rOneM, rDeedM] at hS
  refine then_n ?_
  refine wp_block ?_
  refine wp_seq ?_
  refine wp_seq ?_
  refine region_seq hS (by kernel_rfl)
    (cF rfl (o_eql .t (.ci (by kernel_rfl))) r1 trivial
    (cF rfl (o_assign .t (by rfl)) r1 trivial
    Chain.nil))
    (by kernel_rfl) (by rw [hB]; kernel_rfl) ?_
  clear hS; intro a w F hS
  obtain ⟨F, hS⟩ := hS.norm [(2, _), (3, _), (4, _), (5, _), (7, _), (9, _), (34, _), (35, _)] [(0, _), (1, _), (101, _), (102, _), (103, _)] r8 r5
  try dsimp only [rPair, rOneM, rDeedM] at hS
  refine then_n ?_
  refine cond_b hS rfl (fun hc0 => ?_) (fun hc0 => ?_)
  ·skip
   have hkd : d.kind = 0 ∨ d.kind = 1 ∨ d.kind = 2 := by simp at hc0; omega
   have hp : stepO room q root t l d = stepPut room q root t l d.key d.val := if_pos hkd
   refine wp_skip ?_
   refine then_n ?_
   refine cond_b hS rfl (fun hc1 => ?_) (fun hc1 => ?_)
   ·skip
    have hkd : d.kind = 0 ∨ d.kind = 1 ∨ d.kind = 2 := by simp at hc1; omega
    have hp : stepO room q root t l d = stepPut room q root t l d.key d.val := if_pos hkd
    refine wp_seq ?_
    refine region_seq hS (by kernel_rfl)
      (cF rfl (o_fieldAddr (off := 0) 101 .is (by kernel_rfl) (by rfl)) r1 r1
      (cF rfl (o_load (ag := true) (sz := 2) 101 .adr (by kernel_rfl) (by kernel_rfl) (by kernel_rfl) (by rfl)) r1 r1
      (cF rfl (o_fieldAddr (off := 2) 102 .is (by kernel_rfl) (by rfl)) r1 r1
      (cF rfl (o_load (ag := false) (sz := 1) 102 .adr (by kernel_rfl) (by kernel_rfl) (by kernel_rfl) (by rfl)) r1 r1
      (cF rfl (o_fieldAddr (off := 3) 102 .is (by kernel_rfl) (by rfl)) r1 r1
      (cF rfl (o_load (ag := false) (sz := 1) 102 .adr (by kernel_rfl) (by kernel_rfl) (by kernel_rfl) (by rfl)) r1 r1
      (cF rfl (o_callG1 1 (mPut_c (some b) room q root d.key d.val t hk.rep) Try.func25 rfl (by kernel_rfl) (Args.three (.pagg .t) .t .t)) r3 r1
      (cF rfl (o_move .t (by rfl)) r1 trivial
      (cF rfl (o_extract .t rfl) r1 trivial
      (cF rfl (o_extract .t rfl) r1 trivial
      (cF rfl (o_alloc (zs := [.pointer none, .int .i64 0]) 104 (by kernel_rfl)) trivial trivial
      (cF rfl (o_storeA (sz := 2) 104 .same (.conv .t .agg) (by kernel_rfl) (by kernel_rfl) (by kernel_rfl)) r2 r1
      (cF rfl (o_assign .t (by rfl)) r1 trivial
      Chain.nil)))))))))))))
      (by kernel_rfl) (by rw [hB]; kernel_rfl) ?_
    clear hS; intro a w F hS
    replace hS := hS.sub
    obtain ⟨F, hS⟩ := hS.norm [(2, _), (3, _), (4, _), (5, _), (7, _), (9, _), (10, _), (11, _)] [(0, _), (1, _), (101, _), (102, _), (103, _), (104, _)] r8 r6
    try dsimp only [RS.sub, SF.sub, CF.sub, csub, Anc.sub, List.map, stCells, List.length_cons, List.length_nil, Nat.reduceAdd, List.drop_succ_cons, List.drop_zero, List.drop_nil, List.take_succ_cons, List.take_zero, List.take_nil, List.cons_append, List.nil_append, zCF, ldSF, rPair, rOneM, rDeedM] at hS
    generalize Act.tau a 10 = v10 at hS
    refine then_n ?_
    refine wp_seq ?_
    refine wp_seq ?_
    refine region_seq hS (by kernel_rfl)
      (cF rfl (o_move .t (by rfl)) r1 trivial
      (cF rfl (o_eql .t (.ci (by kernel_rfl))) r1 trivial
      Chain.nil))
      (by kernel_rfl) (by rw [hB]; kernel_rfl) ?_
    clear hS; intro a w F hS
    obtain ⟨F, hS⟩ := hS.norm [(2, _), (3, _), (4, _), (5, _), (7, _), (9, _), (10, _), (11, _), (50, _)] [(0, _), (1, _), (101, _), (102, _), (103, _), (104, _)] ⟨rfl, rfl, rfl, rfl, rfl, rfl, rfl, rfl, rfl, trivial⟩ r6
    try dsimp only [rPair, rOneM, rDeedM] at hS
    refine then_n ?_
    refine cond_b hS rfl (fun hc2 => ?_) (fun hc2 => ?_)
    ·skip
     have hw : (putM room q ⟨d.key, d.val⟩ t root).2.1 = 2 := by simpa using hc2
     have hM : (putM room q ⟨d.key, d.val⟩ t root) = (q, 2, 0) ∧ room < q.length + 3 * (tHigh t + 1) := by rcases hk.put (room := room) d.key d.val (by omega) with ⟨e, r, hM, _⟩ | h; (rw [hM] at hw; simp at hw); exact h
     have hokf : ¬ IntKind.wrap .i64 (3 * IntKind.wrap .i64 (tHigh t + 1)) ≤ room - q.length := by rw [wrap_i64 (x := tHigh t + 1) (by omega), wrap_i64 (by omega)]; omega
     have hg : (stepO room q root t l d) = ⟨q, root, t, l, none⟩ := by rw [hp]; exact if_pos hw
     rw [hM.1] at hS
     refine wp_seq ?_
     refine region_any (by kernel_rfl) hS (by kernel_rfl)
       (cF rfl (o_load (ag := true) (sz := 4) 101 .is (by kernel_rfl) (by kernel_rfl) (by kernel_rfl) (by rfl)) r1 r1
       (cF rfl (o_move .t (by rfl)) r1 trivial
       (cF rfl (o_not .t) r1 trivial
       (cF rfl (o_move .t (by rfl)) r1 trivial
       (Chain.cons (Cert.cond rfl rfl (fun h => o_fieldAddr (off := 2) 101 .is (by kernel_rfl) (by rfl))) r2 r1
       (Chain.cons (Cert.cond rfl rfl (fun h => o_load (ag := false) (sz := 1) 101 (.w h .adr) (by kernel_rfl) (by kernel_rfl) (by kernel_rfl) (by rfl))) r2 r1
       (Chain.cons (Cert.condR rfl rfl (by rfl) (fun h => o_callG1 1 (aLen_c (some b) room q) Try.func37 rfl (by kernel_rfl) (Args.one (.w h)))) r2 r1
       (Chain.cons (Cert.cond rfl rfl (fun h => o_move .t (by rfl))) r2 trivial
       (Chain.cons (Cert.cond rfl rfl (fun h => o_eql (.w h) (.w h))) r3 trivial
       (cF rfl (o_and2 .t .t) r2 trivial
       (cF rfl (o_move .t (by rfl)) r1 trivial
       (Chain.cons (Cert.cond rfl rfl (fun h => o_load (ag := true) (sz := 2) 104 .is (by kernel_rfl) (by kernel_rfl) (by kernel_rfl) (by rfl))) r2 r1
       (Chain.cons (Cert.condR rfl rfl (by rfl) (fun h => o_callG1 1 (mlenT_c (some b) room q 0 .nil rfl) Try.func30 rfl (by kernel_rfl) (Args.one (.pagg (.w h))))) r2 r1
       (Chain.cons (Cert.cond rfl rfl (fun h => o_eql (.w h) (.ci (by kernel_rfl)))) r2 trivial
       (cF rfl (o_and2 .t .t) r2 trivial
       (cF rfl (o_storeA (sz := 4) 103 .is .t (by kernel_rfl) (by kernel_rfl) (by kernel_rfl)) r2 r1
       (cF rfl (o_assign .t (by rfl)) r1 trivial
       Chain.nil)))))))))))))))))
       (by kernel_rfl) (by rw [hB]; kernel_rfl) ?_
     clear hS; intro a w F hS
     obtain ⟨F, hS⟩ := hS.norm [(2, _), (3, _), (4, _), (5, _), (10, _), (11, _)] [(0, _), (1, _), (101, _), (102, _), (103, _), (104, _)] r6 r6
     try dsimp only [List.map, stCells, List.length_cons, List.length_nil, Nat.reduceAdd, List.drop_succ_cons, List.drop_zero, List.drop_nil, List.take_succ_cons, List.take_zero, List.take_nil, List.cons_append, List.nil_append, zCF, ldSF, rPair, rOneM, rDeedM] at hS
     refine then_n ?_
     refine wp_ret ?_
     refine then_r ?_
     refine block_r ?_
     refine then_r ?_
     have hS := hS.turn 1 rfl (r' := RS.hp (arH (some b) room (stepO room q root t l d).q)) (fun _ _ _ _ h => by rw [hg]; exact h)
     have hS := hS.fresh 2 rfl
     have hS := hS.turn 2 rfl (r' := RS.hp (stepK (stepO room q root t l d) b b)) (fun _ _ _ _ h => by rw [hg]; exact ⟨rfl, h⟩)
     refine ret_G2h (g := fun b => arV (some b)) (b0 := b) (l := fun u => [.int .i64 (stepO room q root t l d).root, .is u, .sl rPair (stepO room q root t l d).l]) (k2 := fun b2 => stepK (stepO room q root t l d) b b2) hG hS rfl (.cell (n := 103) (ag := true) (sz := 4) rfl .is rfl (by kernel_rfl) (by kernel_rfl) (by kernel_rfl) (.tmp rfl .nil)) (.two (.aggU rfl (by rw [hg]; rfl)) (.bool (by first | rfl | (simp [hokf, tSize]; done) | (simp [hokf, tSize]; omega)))) rfl rfl
    ·skip
     have hw : ¬ (putM room q ⟨d.key, d.val⟩ t root).2.1 = 2 := by simpa using hc2
     obtain ⟨e, r, hM, hk2, _⟩ : ∃ (e : List Cell) (r : Int), (putM room q ⟨d.key, d.val⟩ t root) = (q ++ e, 0, r) ∧ MapOk (q ++ e) (putT ⟨d.key, d.val⟩ t) r ∧ (e.length : Int) ≤ 3 * (tHigh t + 1) := by rcases hk.put (room := room) d.key d.val (by omega) with h | ⟨h, _⟩; exact h; rw [h] at hw; exact absurd rfl hw
     have hokf := True.intro
     have hg : (stepO room q root t l d) = ⟨q ++ e, r, putT ⟨d.key, d.val⟩ t, putP l d.key d.val, none⟩ := by rw [hp]; unfold stepPut; rw [if_neg hw, hM]
     rw [hM] at hS
     refine wp_skip ?_
     refine then_n ?_
     refine wp_seq ?_
     refine region_any (by kernel_rfl) hS (by kernel_rfl)
       (cF rfl (o_load (ag := true) (sz := 2) 104 .is (by kernel_rfl) (by kernel_rfl) (by kernel_rfl) (by rfl)) r1 r1
       (cF rfl (o_fieldAddr (off := 2) 101 .is (by kernel_rfl) (by rfl)) r1 r1
       (cF rfl (o_load (ag := false) (sz := 1) 101 .adr (by kernel_rfl) (by kernel_rfl) (by kernel_rfl) (by rfl)) r1 r1
       (cF rfl (o_fieldAddr (off := 3) 101 .is (by kernel_rfl) (by rfl)) r1 r1
       (cF rfl (o_load (ag := false) (sz := 1) 101 .adr (by kernel_rfl) (by kernel_rfl) (by kernel_rfl) (by rfl)) r1 r1
       (cF rfl (o_fieldAddr (off := 2) 102 .is (by kernel_rfl) (by rfl)) r1 r1
       (cF rfl (o_load (ag := false) (sz := 1) 102 .adr (by kernel_rfl) (by kernel_rfl) (by kernel_rfl) (by rfl)) r1 r1
       (cF rfl (o_fieldAddr (off := 3) 102 .is (by kernel_rfl) (by rfl)) r1 r1
       (cF rfl (o_load (ag := false) (sz := 1) 102 .adr (by kernel_rfl) (by kernel_rfl) (by kernel_rfl) (by rfl)) r1 r1
       (cF rfl (o_callP (put06_c l d.key d.val (by omega)) Try.func55 rfl (by kernel_rfl) (Args.three .t .t .t)) r3 trivial
       (cF rfl (o_build (r := [(0, .tmp 66), (1, .tmp 68), (2, .tmp 75)]) (zs := [.pointer none, .int .i64 0, .pointer none, .slice none 0 0]) (pl := [(0, 2), (2, 1), (3, 1)]) (by kernel_rfl) (by kernel_rfl) (.agg rfl .t (by kernel_rfl) (by kernel_rfl) (.one rfl .t one_is (by kernel_rfl) (.one rfl .t one_sl (by kernel_rfl) .nil))) (by rfl)) r3 trivial
       (cF rfl (o_move .t (by rfl)) r1 trivial
       (cF rfl (o_eql .t (.ci (by kernel_rfl))) r1 trivial
       (cF rfl (o_storeA (sz := 4) 103 .is .t (by kernel_rfl) (by kernel_rfl) (by kernel_rfl)) r2 r1
       (cF rfl (o_assign .t (by rfl)) r1 trivial
       Chain.nil)))))))))))))))
       (by kernel_rfl) (by rw [hB]; kernel_rfl) ?_
     clear hS; intro a w F hS
     obtain ⟨F, hS⟩ := hS.norm [(2, _), (4, _), (5, _)] [(0, _), (1, _), (101, _), (103, _)] r3 r4
     try dsimp only [List.map, stCells, List.length_cons, List.length_nil, Nat.reduceAdd, List.drop_succ_cons, List.drop_zero, List.drop_nil, List.take_succ_cons, List.take_zero, List.take_nil, List.cons_append, List.nil_append, zCF, ldSF, rPair, rOneM, rDeedM] at hS
     refine then_n ?_
     refine wp_ret ?_
     refine block_r ?_
     refine then_r ?_
     have hS := hS.turn 1 rfl (r' := RS.hp (arH (some b) room (stepO room q root t l d).q)) (fun _ _ _ _ h => by rw [hg]; exact h)
     have hS := hS.fresh 2 rfl
     have hS := hS.turn 2 rfl (r' := RS.hp (stepK (stepO room q root t l d) b b)) (fun _ _ _ _ h => by rw [hg]; exact ⟨rfl, h⟩)
     refine ret_G2h (g := fun b => arV (some b)) (b0 := b) (l := fun u => [.int .i64 (stepO room q root t l d).root, .is u, .sl rPair (stepO room q root t l d).l]) (k2 := fun b2 => stepK (stepO room q root t l d) b b2) hG hS rfl (.cell (n := 103) (ag := true) (sz := 4) rfl .is rfl (by kernel_rfl) (by kernel_rfl) (by kernel_rfl) (.tmp rfl .nil)) (.two (.aggU rfl (by rw [hg]; rfl)) (.bool (by first | rfl | (simp [hokf, tSize]; done) | (simp [hokf, tSize]; omega)))) rfl rfl
   ·exact Bool.noConfusion (hc0.symm.trans hc1)
  ·skip
   have hkf := of_decide_eq_false hc0
   refine wp_seq ?_
   refine region_seq hS (by kernel_rfl)
     (cF rfl (o_eql .t (.ci (by kernel_rfl))) r1 trivial
     (cF rfl (o_assign .t (by rfl)) r1 trivial
     Chain.nil))
     (by kernel_rfl) (by rw [hB]; kernel_rfl) ?_
   clear hS; intro a w F hS
   obtain ⟨F, hS⟩ := hS.norm [(2, _), (3, _), (4, _), (5, _), (7, _), (9, _), (34, _), (35, _)] [(0, _), (1, _), (101, _), (102, _), (103, _)] r8 r5
   try dsimp only [rPair, rOneM, rDeedM] at hS
   refine then_n ?_
   refine cond_b hS rfl (fun hc3 => ?_) (fun hc3 => ?_)
   ·skip
    have hkd : d.kind = 0 ∨ d.kind = 1 ∨ d.kind = 2 := by simp at hc3; omega
    have hp : stepO room q root t l d = stepPut room q root t l d.key d.val := if_pos hkd
    refine wp_skip ?_
    refine then_n ?_
    refine cond_b hS rfl (fun hc4 => ?_) (fun hc4 => ?_)
    ·skip
     have hkd : d.kind = 0 ∨ d.kind = 1 ∨ d.kind = 2 := by simp at hc4; omega
     have hp : stepO room q root t l d = stepPut room q root t l d.key d.val := if_pos hkd
     refine wp_seq ?_
     refine region_seq hS (by kernel_rfl)
       (cF rfl (o_fieldAddr (off := 0) 101 .is (by kernel_rfl) (by rfl)) r1 r1
       (cF rfl (o_load (ag := true) (sz := 2) 101 .adr (by kernel_rfl) (by kernel_rfl) (by kernel_rfl) (by rfl)) r1 r1
       (cF rfl (o_fieldAddr (off := 2) 102 .is (by kernel_rfl) (by rfl)) r1 r1
       (cF rfl (o_load (ag := false) (sz := 1) 102 .adr (by kernel_rfl) (by kernel_rfl) (by kernel_rfl) (by rfl)) r1 r1
       (cF rfl (o_fieldAddr (off := 3) 102 .is (by kernel_rfl) (by rfl)) r1 r1
       (cF rfl (o_load (ag := false) (sz := 1) 102 .adr (by kernel_rfl) (by kernel_rfl) (by kernel_rfl) (by rfl)) r1 r1
       (cF rfl (o_callG1 1 (mPut_c (some b) room q root d.key d.val t hk.rep) Try.func25 rfl (by kernel_rfl) (Args.three (.pagg .t) .t .t)) r3 r1
       (cF rfl (o_move .t (by rfl)) r1 trivial
       (cF rfl (o_extract .t rfl) r1 trivial
       (cF rfl (o_extract .t rfl) r1 trivial
       (cF rfl (o_alloc (zs := [.pointer none, .int .i64 0]) 105 (by kernel_rfl)) trivial trivial
       (cF rfl (o_storeA (sz := 2) 105 .same (.conv .t .agg) (by kernel_rfl) (by kernel_rfl) (by kernel_rfl)) r2 r1
       (cF rfl (o_assign .t (by rfl)) r1 trivial
       Chain.nil)))))))))))))
       (by kernel_rfl) (by rw [hB]; kernel_rfl) ?_
     clear hS; intro a w F hS
     replace hS := hS.sub
     obtain ⟨F, hS⟩ := hS.norm [(2, _), (3, _), (4, _), (5, _), (7, _), (9, _), (10, _), (11, _)] [(0, _), (1, _), (101, _), (102, _), (103, _), (105, _)] r8 r6
     try dsimp only [RS.sub, SF.sub, CF.sub, csub, Anc.sub, List.map, stCells, List.length_cons, List.length_nil, Nat.reduceAdd, List.drop_succ_cons, List.drop_zero, List.drop_nil, List.take_succ_cons, List.take_zero, List.take_nil, List.cons_append, List.nil_append, zCF, ldSF, rPair, rOneM, rDeedM] at hS
     generalize Act.tau a 10 = v10 at hS
     refine then_n ?_
     refine wp_seq ?_
     refine wp_seq ?_
     refine region_seq hS (by kernel_rfl)
       (cF rfl (o_move .t (by rfl)) r1 trivial
       (cF rfl (o_eql .t (.ci (by kernel_rfl))) r1 trivial
       Chain.nil))
       (by kernel_rfl) (by rw [hB]; kernel_rfl) ?_
     clear hS; intro a w F hS
     obtain ⟨F, hS⟩ := hS.norm [(2, _), (3, _), (4, _), (5, _), (7, _), (9, _), (10, _), (11, _), (50, _)] [(0, _), (1, _), (101, _), (102, _), (103, _), (105, _)] ⟨rfl, rfl, rfl, rfl, rfl, rfl, rfl, rfl, rfl, trivial⟩ r6
     try dsimp only [rPair, rOneM, rDeedM] at hS
     refine then_n ?_
     refine cond_b hS rfl (fun hc5 => ?_) (fun hc5 => ?_)
     ·skip
      have hw : (putM room q ⟨d.key, d.val⟩ t root).2.1 = 2 := by simpa using hc5
      have hM : (putM room q ⟨d.key, d.val⟩ t root) = (q, 2, 0) ∧ room < q.length + 3 * (tHigh t + 1) := by rcases hk.put (room := room) d.key d.val (by omega) with ⟨e, r, hM, _⟩ | h; (rw [hM] at hw; simp at hw); exact h
      have hokf : ¬ IntKind.wrap .i64 (3 * IntKind.wrap .i64 (tHigh t + 1)) ≤ room - q.length := by rw [wrap_i64 (x := tHigh t + 1) (by omega), wrap_i64 (by omega)]; omega
      have hg : (stepO room q root t l d) = ⟨q, root, t, l, none⟩ := by rw [hp]; exact if_pos hw
      rw [hM.1] at hS
      refine wp_seq ?_
      refine region_any (by kernel_rfl) hS (by kernel_rfl)
        (cF rfl (o_load (ag := true) (sz := 4) 101 .is (by kernel_rfl) (by kernel_rfl) (by kernel_rfl) (by rfl)) r1 r1
        (cF rfl (o_move .t (by rfl)) r1 trivial
        (cF rfl (o_not .t) r1 trivial
        (cF rfl (o_move .t (by rfl)) r1 trivial
        (Chain.cons (Cert.cond rfl rfl (fun h => o_fieldAddr (off := 2) 101 .is (by kernel_rfl) (by rfl))) r2 r1
        (Chain.cons (Cert.cond rfl rfl (fun h => o_load (ag := false) (sz := 1) 101 (.w h .adr) (by kernel_rfl) (by kernel_rfl) (by kernel_rfl) (by rfl))) r2 r1
        (Chain.cons (Cert.condR rfl rfl (by rfl) (fun h => o_callG1 1 (aLen_c (some b) room q) Try.func37 rfl (by kernel_rfl) (Args.one (.w h)))) r2 r1
        (Chain.cons (Cert.cond rfl rfl (fun h => o_move .t (by rfl))) r2 trivial
        (Chain.cons (Cert.cond rfl rfl (fun h => o_eql (.w h) (.w h))) r3 trivial
        (cF rfl (o_and2 .t .t) r2 trivial
        (cF rfl (o_move .t (by rfl)) r1 trivial
        (Chain.cons (Cert.cond rfl rfl (fun h => o_load (ag := true) (sz := 2) 105 .is (by kernel_rfl) (by kernel_rfl) (by kernel_rfl) (by rfl))) r2 r1
        (Chain.cons (Cert.condR rfl rfl (by rfl) (fun h => o_callG1 1 (mlenT_c (some b) room q 0 .nil rfl) Try.func30 rfl (by kernel_rfl) (Args.one (.pagg (.w h))))) r2 r1
        (Chain.cons (Cert.cond rfl rfl (fun h => o_eql (.w h) (.ci (by kernel_rfl)))) r2 trivial
        (cF rfl (o_and2 .t .t) r2 trivial
        (cF rfl (o_storeA (sz := 4) 103 .is .t (by kernel_rfl) (by kernel_rfl) (by kernel_rfl)) r2 r1
        (cF rfl (o_assign .t (by rfl)) r1 trivial
        Chain.nil)))))))))))))))))
        (by kernel_rfl) (by rw [hB]; kernel_rfl) ?_
      clear hS; intro a w F hS
      obtain ⟨F, hS⟩ := hS.norm [(2, _), (3, _), (4, _), (5, _), (10, _), (11, _)] [(0, _), (1, _), (101, _), (102, _), (103, _), (105, _)] r6 r6
      try dsimp only [List.map, stCells, List.length_cons, List.length_nil, Nat.reduceAdd, List.drop_succ_cons, List.drop_zero, List.drop_nil, List.take_succ_cons, List.take_zero, List.take_nil, List.cons_append, List.nil_append, zCF, ldSF, rPair, rOneM, rDeedM] at hS
      refine then_n ?_
      refine wp_ret ?_
      refine then_r ?_
      refine block_r ?_
      refine then_r ?_
      have hS := hS.turn 1 rfl (r' := RS.hp (arH (some b) room (stepO room q root t l d).q)) (fun _ _ _ _ h => by rw [hg]; exact h)
      have hS := hS.fresh 2 rfl
      have hS := hS.turn 2 rfl (r' := RS.hp (stepK (stepO room q root t l d) b b)) (fun _ _ _ _ h => by rw [hg]; exact ⟨rfl, h⟩)
      refine ret_G2h (g := fun b => arV (some b)) (b0 := b) (l := fun u => [.int .i64 (stepO room q root t l d).root, .is u, .sl rPair (stepO room q root t l d).l]) (k2 := fun b2 => stepK (stepO room q root t l d) b b2) hG hS rfl (.cell (n := 103) (ag := true) (sz := 4) rfl .is rfl (by kernel_rfl) (by kernel_rfl) (by kernel_rfl) (.tmp rfl .nil)) (.two (.aggU rfl (by rw [hg]; rfl)) (.bool (by first | rfl | (simp [hokf, tSize]; done) | (simp [hokf, tSize]; omega)))) rfl rfl
     ·skip
      have hw : ¬ (putM room q ⟨d.key, d.val⟩ t root).2.1 = 2 := by simpa using hc5
      obtain ⟨e, r, hM, hk2, _⟩ : ∃ (e : List Cell) (r : Int), (putM room q ⟨d.key, d.val⟩ t root) = (q ++ e, 0, r) ∧ MapOk (q ++ e) (putT ⟨d.key, d.val⟩ t) r ∧ (e.length : Int) ≤ 3 * (tHigh t + 1) := by rcases hk.put (room := room) d.key d.val (by omega) with h | ⟨h, _⟩; exact h; rw [h] at hw; exact absurd rfl hw
      have hokf := True.intro
      have hg : (stepO room q root t l d) = ⟨q ++ e, r, putT ⟨d.key, d.val⟩ t, putP l d.key d.val, none⟩ := by rw [hp]; unfold stepPut; rw [if_neg hw, hM]
      rw [hM] at hS
      refine wp_skip ?_
      refine then_n ?_
      refine wp_seq ?_
      refine region_any (by kernel_rfl) hS (by kernel_rfl)
        (cF rfl (o_load (ag := true) (sz := 2) 105 .is (by kernel_rfl) (by kernel_rfl) (by kernel_rfl) (by rfl)) r1 r1
        (cF rfl (o_fieldAddr (off := 2) 101 .is (by kernel_rfl) (by rfl)) r1 r1
        (cF rfl (o_load (ag := false) (sz := 1) 101 .adr (by kernel_rfl) (by kernel_rfl) (by kernel_rfl) (by rfl)) r1 r1
        (cF rfl (o_fieldAddr (off := 3) 101 .is (by kernel_rfl) (by rfl)) r1 r1
        (cF rfl (o_load (ag := false) (sz := 1) 101 .adr (by kernel_rfl) (by kernel_rfl) (by kernel_rfl) (by rfl)) r1 r1
        (cF rfl (o_fieldAddr (off := 2) 102 .is (by kernel_rfl) (by rfl)) r1 r1
        (cF rfl (o_load (ag := false) (sz := 1) 102 .adr (by kernel_rfl) (by kernel_rfl) (by kernel_rfl) (by rfl)) r1 r1
        (cF rfl (o_fieldAddr (off := 3) 102 .is (by kernel_rfl) (by rfl)) r1 r1
        (cF rfl (o_load (ag := false) (sz := 1) 102 .adr (by kernel_rfl) (by kernel_rfl) (by kernel_rfl) (by rfl)) r1 r1
        (cF rfl (o_callP (put06_c l d.key d.val (by omega)) Try.func55 rfl (by kernel_rfl) (Args.three .t .t .t)) r3 trivial
        (cF rfl (o_build (r := [(0, .tmp 66), (1, .tmp 68), (2, .tmp 75)]) (zs := [.pointer none, .int .i64 0, .pointer none, .slice none 0 0]) (pl := [(0, 2), (2, 1), (3, 1)]) (by kernel_rfl) (by kernel_rfl) (.agg rfl .t (by kernel_rfl) (by kernel_rfl) (.one rfl .t one_is (by kernel_rfl) (.one rfl .t one_sl (by kernel_rfl) .nil))) (by rfl)) r3 trivial
        (cF rfl (o_move .t (by rfl)) r1 trivial
        (cF rfl (o_eql .t (.ci (by kernel_rfl))) r1 trivial
        (cF rfl (o_storeA (sz := 4) 103 .is .t (by kernel_rfl) (by kernel_rfl) (by kernel_rfl)) r2 r1
        (cF rfl (o_assign .t (by rfl)) r1 trivial
        Chain.nil)))))))))))))))
        (by kernel_rfl) (by rw [hB]; kernel_rfl) ?_
      clear hS; intro a w F hS
      obtain ⟨F, hS⟩ := hS.norm [(2, _), (4, _), (5, _)] [(0, _), (1, _), (101, _), (103, _)] r3 r4
      try dsimp only [List.map, stCells, List.length_cons, List.length_nil, Nat.reduceAdd, List.drop_succ_cons, List.drop_zero, List.drop_nil, List.take_succ_cons, List.take_zero, List.take_nil, List.cons_append, List.nil_append, zCF, ldSF, rPair, rOneM, rDeedM] at hS
      refine then_n ?_
      refine wp_ret ?_
      refine block_r ?_
      refine then_r ?_
      have hS := hS.turn 1 rfl (r' := RS.hp (arH (some b) room (stepO room q root t l d).q)) (fun _ _ _ _ h => by rw [hg]; exact h)
      have hS := hS.fresh 2 rfl
      have hS := hS.turn 2 rfl (r' := RS.hp (stepK (stepO room q root t l d) b b)) (fun _ _ _ _ h => by rw [hg]; exact ⟨rfl, h⟩)
      refine ret_G2h (g := fun b => arV (some b)) (b0 := b) (l := fun u => [.int .i64 (stepO room q root t l d).root, .is u, .sl rPair (stepO room q root t l d).l]) (k2 := fun b2 => stepK (stepO room q root t l d) b b2) hG hS rfl (.cell (n := 103) (ag := true) (sz := 4) rfl .is rfl (by kernel_rfl) (by kernel_rfl) (by kernel_rfl) (.tmp rfl .nil)) (.two (.aggU rfl (by rw [hg]; rfl)) (.bool (by first | rfl | (simp [hokf, tSize]; done) | (simp [hokf, tSize]; omega)))) rfl rfl
    ·exact Bool.noConfusion (hc3.symm.trans hc4)
   ·skip
    have hkf := of_decide_eq_false hc3
    refine region_seq hS (by kernel_rfl)
      (cF rfl (o_eql .t (.ci (by kernel_rfl))) r1 trivial
      (cF rfl (o_assign .t (by rfl)) r1 trivial
      Chain.nil))
      (by kernel_rfl) (by rw [hB]; kernel_rfl) ?_
    clear hS; intro a w F hS
    obtain ⟨F, hS⟩ := hS.norm [(2, _), (3, _), (4, _), (5, _), (7, _), (9, _), (34, _), (35, _)] [(0, _), (1, _), (101, _), (102, _), (103, _)] r8 r5
    try dsimp only [rPair, rOneM, rDeedM] at hS
    refine then_n ?_
    refine cond_b hS rfl (fun hc6 => ?_) (fun hc6 => ?_)
    ·skip
     have hkd : d.kind = 0 ∨ d.kind = 1 ∨ d.kind = 2 := by simp at hc6; omega
     have hp : stepO room q root t l d = stepPut room q root t l d.key d.val := if_pos hkd
     refine wp_seq ?_
     refine region_seq hS (by kernel_rfl)
       (cF rfl (o_fieldAddr (off := 0) 101 .is (by kernel_rfl) (by rfl)) r1 r1
       (cF rfl (o_load (ag := true) (sz := 2) 101 .adr (by kernel_rfl) (by kernel_rfl) (by kernel_rfl) (by rfl)) r1 r1
       (cF rfl (o_fieldAddr (off := 2) 102 .is (by kernel_rfl) (by rfl)) r1 r1
       (cF rfl (o_load (ag := false) (sz := 1) 102 .adr (by kernel_rfl) (by kernel_rfl) (by kernel_rfl) (by rfl)) r1 r1
       (cF rfl (o_fieldAddr (off := 3) 102 .is (by kernel_rfl) (by rfl)) r1 r1
       (cF rfl (o_load (ag := false) (sz := 1) 102 .adr (by kernel_rfl) (by kernel_rfl) (by kernel_rfl) (by rfl)) r1 r1
       (cF rfl (o_callG1 1 (mPut_c (some b) room q root d.key d.val t hk.rep) Try.func25 rfl (by kernel_rfl) (Args.three (.pagg .t) .t .t)) r3 r1
       (cF rfl (o_move .t (by rfl)) r1 trivial
       (cF rfl (o_extract .t rfl) r1 trivial
       (cF rfl (o_extract .t rfl) r1 trivial
       (cF rfl (o_alloc (zs := [.pointer none, .int .i64 0]) 106 (by kernel_rfl)) trivial trivial
       (cF rfl (o_storeA (sz := 2) 106 .same (.conv .t .agg) (by kernel_rfl) (by kernel_rfl) (by kernel_rfl)) r2 r1
       (cF rfl (o_assign .t (by rfl)) r1 trivial
       Chain.nil)))))))))))))
       (by kernel_rfl) (by rw [hB]; kernel_rfl) ?_
     clear hS; intro a w F hS
     replace hS := hS.sub
     obtain ⟨F, hS⟩ := hS.norm [(2, _), (3, _), (4, _), (5, _), (7, _), (9, _), (10, _), (11, _)] [(0, _), (1, _), (101, _), (102, _), (103, _), (106, _)] r8 r6
     try dsimp only [RS.sub, SF.sub, CF.sub, csub, Anc.sub, List.map, stCells, List.length_cons, List.length_nil, Nat.reduceAdd, List.drop_succ_cons, List.drop_zero, List.drop_nil, List.take_succ_cons, List.take_zero, List.take_nil, List.cons_append, List.nil_append, zCF, ldSF, rPair, rOneM, rDeedM] at hS
     generalize Act.tau a 10 = v10 at hS
     refine then_n ?_
     refine wp_seq ?_
     refine wp_seq ?_
     refine region_seq hS (by kernel_rfl)
       (cF rfl (o_move .t (by rfl)) r1 trivial
       (cF rfl (o_eql .t (.ci (by kernel_rfl))) r1 trivial
       Chain.nil))
       (by kernel_rfl) (by rw [hB]; kernel_rfl) ?_
     clear hS; intro a w F hS
     obtain ⟨F, hS⟩ := hS.norm [(2, _), (3, _), (4, _), (5, _), (7, _), (9, _), (10, _), (11, _), (50, _)] [(0, _), (1, _), (101, _), (102, _), (103, _), (106, _)] ⟨rfl, rfl, rfl, rfl, rfl, rfl, rfl, rfl, rfl, trivial⟩ r6
     try dsimp only [rPair, rOneM, rDeedM] at hS
     refine then_n ?_
     refine cond_b hS rfl (fun hc7 => ?_) (fun hc7 => ?_)
     ·skip
      have hw : (putM room q ⟨d.key, d.val⟩ t root).2.1 = 2 := by simpa using hc7
      have hM : (putM room q ⟨d.key, d.val⟩ t root) = (q, 2, 0) ∧ room < q.length + 3 * (tHigh t + 1) := by rcases hk.put (room := room) d.key d.val (by omega) with ⟨e, r, hM, _⟩ | h; (rw [hM] at hw; simp at hw); exact h
      have hokf : ¬ IntKind.wrap .i64 (3 * IntKind.wrap .i64 (tHigh t + 1)) ≤ room - q.length := by rw [wrap_i64 (x := tHigh t + 1) (by omega), wrap_i64 (by omega)]; omega
      have hg : (stepO room q root t l d) = ⟨q, root, t, l, none⟩ := by rw [hp]; exact if_pos hw
      rw [hM.1] at hS
      refine wp_seq ?_
      refine region_any (by kernel_rfl) hS (by kernel_rfl)
        (cF rfl (o_load (ag := true) (sz := 4) 101 .is (by kernel_rfl) (by kernel_rfl) (by kernel_rfl) (by rfl)) r1 r1
        (cF rfl (o_move .t (by rfl)) r1 trivial
        (cF rfl (o_not .t) r1 trivial
        (cF rfl (o_move .t (by rfl)) r1 trivial
        (Chain.cons (Cert.cond rfl rfl (fun h => o_fieldAddr (off := 2) 101 .is (by kernel_rfl) (by rfl))) r2 r1
        (Chain.cons (Cert.cond rfl rfl (fun h => o_load (ag := false) (sz := 1) 101 (.w h .adr) (by kernel_rfl) (by kernel_rfl) (by kernel_rfl) (by rfl))) r2 r1
        (Chain.cons (Cert.condR rfl rfl (by rfl) (fun h => o_callG1 1 (aLen_c (some b) room q) Try.func37 rfl (by kernel_rfl) (Args.one (.w h)))) r2 r1
        (Chain.cons (Cert.cond rfl rfl (fun h => o_move .t (by rfl))) r2 trivial
        (Chain.cons (Cert.cond rfl rfl (fun h => o_eql (.w h) (.w h))) r3 trivial
        (cF rfl (o_and2 .t .t) r2 trivial
        (cF rfl (o_move .t (by rfl)) r1 trivial
        (Chain.cons (Cert.cond rfl rfl (fun h => o_load (ag := true) (sz := 2) 106 .is (by kernel_rfl) (by kernel_rfl) (by kernel_rfl) (by rfl))) r2 r1
        (Chain.cons (Cert.condR rfl rfl (by rfl) (fun h => o_callG1 1 (mlenT_c (some b) room q 0 .nil rfl) Try.func30 rfl (by kernel_rfl) (Args.one (.pagg (.w h))))) r2 r1
        (Chain.cons (Cert.cond rfl rfl (fun h => o_eql (.w h) (.ci (by kernel_rfl)))) r2 trivial
        (cF rfl (o_and2 .t .t) r2 trivial
        (cF rfl (o_storeA (sz := 4) 103 .is .t (by kernel_rfl) (by kernel_rfl) (by kernel_rfl)) r2 r1
        (cF rfl (o_assign .t (by rfl)) r1 trivial
        Chain.nil)))))))))))))))))
        (by kernel_rfl) (by rw [hB]; kernel_rfl) ?_
      clear hS; intro a w F hS
      obtain ⟨F, hS⟩ := hS.norm [(2, _), (3, _), (4, _), (5, _), (10, _), (11, _)] [(0, _), (1, _), (101, _), (102, _), (103, _), (106, _)] r6 r6
      try dsimp only [List.map, stCells, List.length_cons, List.length_nil, Nat.reduceAdd, List.drop_succ_cons, List.drop_zero, List.drop_nil, List.take_succ_cons, List.take_zero, List.take_nil, List.cons_append, List.nil_append, zCF, ldSF, rPair, rOneM, rDeedM] at hS
      refine then_n ?_
      refine wp_ret ?_
      refine then_r ?_
      refine block_r ?_
      refine then_r ?_
      have hS := hS.turn 1 rfl (r' := RS.hp (arH (some b) room (stepO room q root t l d).q)) (fun _ _ _ _ h => by rw [hg]; exact h)
      have hS := hS.fresh 2 rfl
      have hS := hS.turn 2 rfl (r' := RS.hp (stepK (stepO room q root t l d) b b)) (fun _ _ _ _ h => by rw [hg]; exact ⟨rfl, h⟩)
      refine ret_G2h (g := fun b => arV (some b)) (b0 := b) (l := fun u => [.int .i64 (stepO room q root t l d).root, .is u, .sl rPair (stepO room q root t l d).l]) (k2 := fun b2 => stepK (stepO room q root t l d) b b2) hG hS rfl (.cell (n := 103) (ag := true) (sz := 4) rfl .is rfl (by kernel_rfl) (by kernel_rfl) (by kernel_rfl) (.tmp rfl .nil)) (.two (.aggU rfl (by rw [hg]; rfl)) (.bool (by first | rfl | (simp [hokf, tSize]; done) | (simp [hokf, tSize]; omega)))) rfl rfl
     ·skip
      have hw : ¬ (putM room q ⟨d.key, d.val⟩ t root).2.1 = 2 := by simpa using hc7
      obtain ⟨e, r, hM, hk2, _⟩ : ∃ (e : List Cell) (r : Int), (putM room q ⟨d.key, d.val⟩ t root) = (q ++ e, 0, r) ∧ MapOk (q ++ e) (putT ⟨d.key, d.val⟩ t) r ∧ (e.length : Int) ≤ 3 * (tHigh t + 1) := by rcases hk.put (room := room) d.key d.val (by omega) with h | ⟨h, _⟩; exact h; rw [h] at hw; exact absurd rfl hw
      have hokf := True.intro
      have hg : (stepO room q root t l d) = ⟨q ++ e, r, putT ⟨d.key, d.val⟩ t, putP l d.key d.val, none⟩ := by rw [hp]; unfold stepPut; rw [if_neg hw, hM]
      rw [hM] at hS
      refine wp_skip ?_
      refine then_n ?_
      refine wp_seq ?_
      refine region_any (by kernel_rfl) hS (by kernel_rfl)
        (cF rfl (o_load (ag := true) (sz := 2) 106 .is (by kernel_rfl) (by kernel_rfl) (by kernel_rfl) (by rfl)) r1 r1
        (cF rfl (o_fieldAddr (off := 2) 101 .is (by kernel_rfl) (by rfl)) r1 r1
        (cF rfl (o_load (ag := false) (sz := 1) 101 .adr (by kernel_rfl) (by kernel_rfl) (by kernel_rfl) (by rfl)) r1 r1
        (cF rfl (o_fieldAddr (off := 3) 101 .is (by kernel_rfl) (by rfl)) r1 r1
        (cF rfl (o_load (ag := false) (sz := 1) 101 .adr (by kernel_rfl) (by kernel_rfl) (by kernel_rfl) (by rfl)) r1 r1
        (cF rfl (o_fieldAddr (off := 2) 102 .is (by kernel_rfl) (by rfl)) r1 r1
        (cF rfl (o_load (ag := false) (sz := 1) 102 .adr (by kernel_rfl) (by kernel_rfl) (by kernel_rfl) (by rfl)) r1 r1
        (cF rfl (o_fieldAddr (off := 3) 102 .is (by kernel_rfl) (by rfl)) r1 r1
        (cF rfl (o_load (ag := false) (sz := 1) 102 .adr (by kernel_rfl) (by kernel_rfl) (by kernel_rfl) (by rfl)) r1 r1
        (cF rfl (o_callP (put06_c l d.key d.val (by omega)) Try.func55 rfl (by kernel_rfl) (Args.three .t .t .t)) r3 trivial
        (cF rfl (o_build (r := [(0, .tmp 66), (1, .tmp 68), (2, .tmp 75)]) (zs := [.pointer none, .int .i64 0, .pointer none, .slice none 0 0]) (pl := [(0, 2), (2, 1), (3, 1)]) (by kernel_rfl) (by kernel_rfl) (.agg rfl .t (by kernel_rfl) (by kernel_rfl) (.one rfl .t one_is (by kernel_rfl) (.one rfl .t one_sl (by kernel_rfl) .nil))) (by rfl)) r3 trivial
        (cF rfl (o_move .t (by rfl)) r1 trivial
        (cF rfl (o_eql .t (.ci (by kernel_rfl))) r1 trivial
        (cF rfl (o_storeA (sz := 4) 103 .is .t (by kernel_rfl) (by kernel_rfl) (by kernel_rfl)) r2 r1
        (cF rfl (o_assign .t (by rfl)) r1 trivial
        Chain.nil)))))))))))))))
        (by kernel_rfl) (by rw [hB]; kernel_rfl) ?_
      clear hS; intro a w F hS
      obtain ⟨F, hS⟩ := hS.norm [(2, _), (4, _), (5, _)] [(0, _), (1, _), (101, _), (103, _)] r3 r4
      try dsimp only [List.map, stCells, List.length_cons, List.length_nil, Nat.reduceAdd, List.drop_succ_cons, List.drop_zero, List.drop_nil, List.take_succ_cons, List.take_zero, List.take_nil, List.cons_append, List.nil_append, zCF, ldSF, rPair, rOneM, rDeedM] at hS
      refine then_n ?_
      refine wp_ret ?_
      refine block_r ?_
      refine then_r ?_
      have hS := hS.turn 1 rfl (r' := RS.hp (arH (some b) room (stepO room q root t l d).q)) (fun _ _ _ _ h => by rw [hg]; exact h)
      have hS := hS.fresh 2 rfl
      have hS := hS.turn 2 rfl (r' := RS.hp (stepK (stepO room q root t l d) b b)) (fun _ _ _ _ h => by rw [hg]; exact ⟨rfl, h⟩)
      refine ret_G2h (g := fun b => arV (some b)) (b0 := b) (l := fun u => [.int .i64 (stepO room q root t l d).root, .is u, .sl rPair (stepO room q root t l d).l]) (k2 := fun b2 => stepK (stepO room q root t l d) b b2) hG hS rfl (.cell (n := 103) (ag := true) (sz := 4) rfl .is rfl (by kernel_rfl) (by kernel_rfl) (by kernel_rfl) (.tmp rfl .nil)) (.two (.aggU rfl (by rw [hg]; rfl)) (.bool (by first | rfl | (simp [hokf, tSize]; done) | (simp [hokf, tSize]; omega)))) rfl rfl
    ·skip
     have hkf := of_decide_eq_false hc6
     refine wp_seq ?_
     refine region_seq hS (by kernel_rfl)
       (cF rfl (o_eql .t (.ci (by kernel_rfl))) r1 trivial
       (cF rfl (o_assign .t (by rfl)) r1 trivial
       Chain.nil))
       (by kernel_rfl) (by rw [hB]; kernel_rfl) ?_
     clear hS; intro a w F hS
     obtain ⟨F, hS⟩ := hS.norm [(2, _), (3, _), (4, _), (5, _), (7, _), (9, _), (34, _), (79, _)] [(0, _), (1, _), (101, _), (102, _), (103, _)] r8 r5
     try dsimp only [rPair, rOneM, rDeedM] at hS
     refine then_n ?_
     refine cond_b hS rfl (fun hc8 => ?_) (fun hc8 => ?_)
     ·skip
      have hkd : d.kind = 3 := by simpa using hc8
      have hp : stepO room q root t l d = stepDel room q root t l d.key := by unfold stepO; rw [if_neg (by omega), if_pos hkd]
      refine wp_seq ?_
      refine region_seq hS (by kernel_rfl)
        (cF rfl (o_fieldAddr (off := 3) 101 .is (by kernel_rfl) (by rfl)) r1 r1
        (cF rfl (o_load (ag := false) (sz := 1) 101 .adr (by kernel_rfl) (by kernel_rfl) (by kernel_rfl) (by rfl)) r1 r1
        (cF rfl (o_fieldAddr (off := 2) 102 .is (by kernel_rfl) (by rfl)) r1 r1
        (cF rfl (o_load (ag := false) (sz := 1) 102 .adr (by kernel_rfl) (by kernel_rfl) (by kernel_rfl) (by rfl)) r1 r1
        (cF rfl (o_callP (del06_c l d.key (by omega)) Try.func56 rfl (by kernel_rfl) (Args.two .t .t)) r2 trivial
        (cF rfl (o_move .t (by rfl)) r1 trivial
        (cF rfl (o_extract .t rfl) r1 trivial
        (cF rfl (o_extract .t rfl) r1 trivial
        (cF rfl (o_assign .t (by rfl)) r1 trivial
        (cF rfl (o_assign .t (by rfl)) r1 trivial
        Chain.nil))))))))))
        (by kernel_rfl) (by rw [hB]; kernel_rfl) ?_
      clear hS; intro a w F hS
      obtain ⟨F, hS⟩ := hS.norm [(2, _), (3, _), (4, _), (5, _), (7, _), (9, _), (12, _), (13, _)] [(0, _), (1, _), (101, _), (102, _), (103, _)] r8 r5
      try dsimp only [List.map, List.drop_succ_cons, List.drop_zero, List.drop_nil, List.take_succ_cons, List.take_zero, List.take_nil, ldSF, rPair, rOneM, rDeedM] at hS
      refine then_n ?_
      refine wp_seq ?_
      refine region_seq hS (by kernel_rfl)
        (cF rfl (o_fieldAddr (off := 0) 101 .is (by kernel_rfl) (by rfl)) r1 r1
        (cF rfl (o_load (ag := true) (sz := 2) 101 .adr (by kernel_rfl) (by kernel_rfl) (by kernel_rfl) (by rfl)) r1 r1
        (cF rfl (o_fieldAddr (off := 2) 102 .is (by kernel_rfl) (by rfl)) r1 r1
        (cF rfl (o_load (ag := false) (sz := 1) 102 .adr (by kernel_rfl) (by kernel_rfl) (by kernel_rfl) (by rfl)) r1 r1
        (cF rfl (o_callG1 1 (mDel_c (some b) room q root d.key t hk.rep) Try.func26 rfl (by kernel_rfl) (Args.two (.pagg .t) .t)) r2 r1
        (cF rfl (o_move .t (by rfl)) r1 trivial
        (cF rfl (o_extract .t rfl) r1 trivial
        (cF rfl (o_extract .t rfl) r1 trivial
        (cF rfl (o_alloc (zs := [.pointer none, .int .i64 0]) 107 (by kernel_rfl)) trivial trivial
        (cF rfl (o_storeA (sz := 2) 107 .same (.conv .t .agg) (by kernel_rfl) (by kernel_rfl) (by kernel_rfl)) r2 r1
        (cF rfl (o_assign .t (by rfl)) r1 trivial
        Chain.nil)))))))))))
        (by kernel_rfl) (by rw [hB]; kernel_rfl) ?_
      clear hS; intro a w F hS
      replace hS := hS.sub
      obtain ⟨F, hS⟩ := hS.norm [(2, _), (4, _), (5, _), (7, _), (9, _), (12, _), (13, _), (14, _), (15, _)] [(0, _), (1, _), (101, _), (103, _), (107, _)] ⟨rfl, rfl, rfl, rfl, rfl, rfl, rfl, rfl, rfl, trivial⟩ r5
      try dsimp only [RS.sub, SF.sub, CF.sub, csub, Anc.sub, List.map, stCells, List.length_cons, List.length_nil, Nat.reduceAdd, List.drop_succ_cons, List.drop_zero, List.drop_nil, List.take_succ_cons, List.take_zero, List.take_nil, List.cons_append, List.nil_append, zCF, ldSF, rPair, rOneM, rDeedM] at hS
      generalize Act.tau a 14 = v14 at hS
      refine then_n ?_
      refine wp_seq ?_
      refine wp_seq ?_
      refine region_seq hS (by kernel_rfl)
        (cF rfl (o_move .t (by rfl)) r1 trivial
        (cF rfl (o_not .t) r1 trivial
        Chain.nil))
        (by kernel_rfl) (by rw [hB]; kernel_rfl) ?_
      clear hS; intro a w F hS
      obtain ⟨F, hS⟩ := hS.norm [(2, _), (4, _), (5, _), (7, _), (9, _), (12, _), (14, _), (15, _), (98, _)] [(0, _), (1, _), (101, _), (103, _), (107, _)] ⟨rfl, rfl, rfl, rfl, rfl, rfl, rfl, rfl, rfl, trivial⟩ r5
      try dsimp only [rPair, rOneM, rDeedM] at hS
      refine then_n ?_
      refine cond_b hS rfl (fun hc9 => ?_) (fun hc9 => ?_)
      ·skip
       have hw : hasP l d.key = false := by simpa using hc9
       have hM : (delM room q d.key t root) = (q, 3, 0) := by rcases hk.del (room := room) d.key (by omega) with ⟨_, h⟩ | ⟨h, _⟩; exact h; rw [hk.has, hl, hw] at h; cases h
       have hokf := True.intro
       have hg : (stepO room q root t l d) = ⟨q, root, t, l, none⟩ := by rw [hp]; exact if_pos hw
       rw [hM] at hS
       refine wp_seq ?_
       refine region_any (by kernel_rfl) hS (by kernel_rfl)
         (cF rfl (o_load (ag := true) (sz := 4) 101 .is (by kernel_rfl) (by kernel_rfl) (by kernel_rfl) (by rfl)) r1 r1
         (cF rfl (o_move .t (by rfl)) r1 trivial
         (cF rfl (o_eql .t (.ci (by kernel_rfl))) r1 trivial
         (cF rfl (o_move .t (by rfl)) r1 trivial
         (Chain.cons (Cert.cond rfl rfl (fun h => o_fieldAddr (off := 2) 101 .is (by kernel_rfl) (by rfl))) r2 r1
         (Chain.cons (Cert.cond rfl rfl (fun h => o_load (ag := false) (sz := 1) 101 (.w h .adr) (by kernel_rfl) (by kernel_rfl) (by kernel_rfl) (by rfl))) r2 r1
         (Chain.cons (Cert.condR rfl rfl (by rfl) (fun h => o_callG1 1 (aLen_c (some b) room q) Try.func37 rfl (by kernel_rfl) (Args.one (.w h)))) r2 r1
         (Chain.cons (Cert.cond rfl rfl (fun h => o_move .t (by rfl))) r2 trivial
         (Chain.cons (Cert.cond rfl rfl (fun h => o_eql (.w h) (.w h))) r3 trivial
         (cF rfl (o_and2 .t .t) r2 trivial
         (cF rfl (o_move .t (by rfl)) r1 trivial
         (Chain.cons (Cert.cond rfl rfl (fun h => o_load (ag := true) (sz := 2) 107 .is (by kernel_rfl) (by kernel_rfl) (by kernel_rfl) (by rfl))) r2 r1
         (Chain.cons (Cert.condR rfl rfl (by rfl) (fun h => o_callG1 1 (mlenT_c (some b) room q 0 .nil rfl) Try.func30 rfl (by kernel_rfl) (Args.one (.pagg (.w h))))) r2 r1
         (Chain.cons (Cert.cond rfl rfl (fun h => o_eql (.w h) (.ci (by kernel_rfl)))) r2 trivial
         (cF rfl (o_and2 .t .t) r2 trivial
         (cF rfl (o_storeA (sz := 4) 103 .is .t (by kernel_rfl) (by kernel_rfl) (by kernel_rfl)) r2 r1
         (cF rfl (o_assign .t (by rfl)) r1 trivial
         Chain.nil)))))))))))))))))
         (by kernel_rfl) (by rw [hB]; kernel_rfl) ?_
       clear hS; intro a w F hS
       obtain ⟨F, hS⟩ := hS.norm [(2, _), (4, _), (5, _), (7, _), (9, _), (12, _), (14, _), (15, _)] [(0, _), (1, _), (101, _), (103, _), (107, _)] r8 r5
       try dsimp only [List.map, stCells, List.length_cons, List.length_nil, Nat.reduceAdd, List.drop_succ_cons, List.drop_zero, List.drop_nil, List.take_succ_cons, List.take_zero, List.take_nil, List.cons_append, List.nil_append, zCF, ldSF, rPair, rOneM, rDeedM] at hS
       refine then_n ?_
       refine wp_ret ?_
       refine then_r ?_
       refine block_r ?_
       refine then_r ?_
       have hS := hS.turn 1 rfl (r' := RS.hp (arH (some b) room (stepO room q root t l d).q)) (fun _ _ _ _ h => by rw [hg]; exact h)
       have hS := hS.fresh 2 rfl
       have hS := hS.turn 2 rfl (r' := RS.hp (stepK (stepO room q root t l d) b b)) (fun _ _ _ _ h => by rw [hg]; exact ⟨rfl, h⟩)
       refine ret_G2h (g := fun b => arV (some b)) (b0 := b) (l := fun u => [.int .i64 (stepO room q root t l d).root, .is u, .sl rPair (stepO room q root t l d).l]) (k2 := fun b2 => stepK (stepO room q root t l d) b b2) hG hS rfl (.cell (n := 103) (ag := true) (sz := 4) rfl .is rfl (by kernel_rfl) (by kernel_rfl) (by kernel_rfl) (.tmp rfl .nil)) (.two (.aggU rfl (by rw [hg]; rfl)) (.bool (by first | rfl | (simp [hokf, tSize]; done) | (simp [hokf, tSize]; omega)))) rfl rfl
      ·skip
       have hw0 : ¬ hasP l d.key = false := by simpa using hc9
       have hlk : (lookT d.key t).2 = true := by rw [hk.has, hl]; simpa using hw0
       refine wp_skip ?_
       refine then_n ?_
       refine wp_seq ?_
       refine wp_seq ?_
       refine region_seq hS (by kernel_rfl)
         (cF rfl (o_move .t (by rfl)) r1 trivial
         (cF rfl (o_eql .t (.ci (by kernel_rfl))) r1 trivial
         Chain.nil))
         (by kernel_rfl) (by rw [hB]; kernel_rfl) ?_
       clear hS; intro a w F hS
       obtain ⟨F, hS⟩ := hS.norm [(2, _), (4, _), (5, _), (7, _), (9, _), (12, _), (14, _), (15, _), (115, _)] [(0, _), (1, _), (101, _), (103, _), (107, _)] ⟨rfl, rfl, rfl, rfl, rfl, rfl, rfl, rfl, rfl, trivial⟩ r5
       try dsimp only [rPair, rOneM, rDeedM] at hS
       refine then_n ?_
       refine cond_b hS rfl (fun hc10 => ?_) (fun hc10 => ?_)
       ·skip
        have hw : (delM room q d.key t root).2.1 = 2 := by simpa using hc10
        have hM : (delM room q d.key t root) = (q, 2, 0) ∧ room < q.length + 3 * (tHigh t + 1) := by rcases hk.del (room := room) d.key (by omega) with ⟨h, _⟩ | ⟨_, ⟨e, r, hM, _⟩ | h⟩; exact absurd hlk h; (rw [hM] at hw; simp at hw); exact h
        have hokf : ¬ IntKind.wrap .i64 (3 * IntKind.wrap .i64 (tHigh t + 1)) ≤ room - q.length := by rw [wrap_i64 (x := tHigh t + 1) (by omega), wrap_i64 (by omega)]; omega
        have hg : (stepO room q root t l d) = ⟨q, root, t, l, none⟩ := by rw [hp]; unfold stepDel; rw [if_neg hw0, if_pos hw]
        rw [hM.1] at hS
        refine wp_seq ?_
        refine region_any (by kernel_rfl) hS (by kernel_rfl)
          (cF rfl (o_load (ag := true) (sz := 4) 101 .is (by kernel_rfl) (by kernel_rfl) (by kernel_rfl) (by rfl)) r1 r1
          (cF rfl (o_move .t (by rfl)) r1 trivial
          (cF rfl (o_not .t) r1 trivial
          (cF rfl (o_move .t (by rfl)) r1 trivial
          (Chain.cons (Cert.cond rfl rfl (fun h => o_fieldAddr (off := 2) 101 .is (by kernel_rfl) (by rfl))) r2 r1
          (Chain.cons (Cert.cond rfl rfl (fun h => o_load (ag := false) (sz := 1) 101 (.w h .adr) (by kernel_rfl) (by kernel_rfl) (by kernel_rfl) (by rfl))) r2 r1
          (Chain.cons (Cert.condR rfl rfl (by rfl) (fun h => o_callG1 1 (aLen_c (some b) room q) Try.func37 rfl (by kernel_rfl) (Args.one (.w h)))) r2 r1
          (Chain.cons (Cert.cond rfl rfl (fun h => o_move .t (by rfl))) r2 trivial
          (Chain.cons (Cert.cond rfl rfl (fun h => o_eql (.w h) (.w h))) r3 trivial
          (cF rfl (o_and2 .t .t) r2 trivial
          (cF rfl (o_move .t (by rfl)) r1 trivial
          (Chain.cons (Cert.cond rfl rfl (fun h => o_load (ag := true) (sz := 2) 107 .is (by kernel_rfl) (by kernel_rfl) (by kernel_rfl) (by rfl))) r2 r1
          (Chain.cons (Cert.condR rfl rfl (by rfl) (fun h => o_callG1 1 (mlenT_c (some b) room q 0 .nil rfl) Try.func30 rfl (by kernel_rfl) (Args.one (.pagg (.w h))))) r2 r1
          (Chain.cons (Cert.cond rfl rfl (fun h => o_eql (.w h) (.ci (by kernel_rfl)))) r2 trivial
          (cF rfl (o_and2 .t .t) r2 trivial
          (cF rfl (o_storeA (sz := 4) 103 .is .t (by kernel_rfl) (by kernel_rfl) (by kernel_rfl)) r2 r1
          (cF rfl (o_assign .t (by rfl)) r1 trivial
          Chain.nil)))))))))))))))))
          (by kernel_rfl) (by rw [hB]; kernel_rfl) ?_
        clear hS; intro a w F hS
        obtain ⟨F, hS⟩ := hS.norm [(2, _), (4, _), (5, _), (12, _), (14, _), (15, _)] [(0, _), (1, _), (101, _), (103, _), (107, _)] r6 r5
        try dsimp only [List.map, stCells, List.length_cons, List.length_nil, Nat.reduceAdd, List.drop_succ_cons, List.drop_zero, List.drop_nil, List.take_succ_cons, List.take_zero, List.take_nil, List.cons_append, List.nil_append, zCF, ldSF, rPair, rOneM, rDeedM] at hS
        refine then_n ?_
        refine wp_ret ?_
        refine then_r ?_
        refine block_r ?_
        refine then_r ?_
        have hS := hS.turn 1 rfl (r' := RS.hp (arH (some b) room (stepO room q root t l d).q)) (fun _ _ _ _ h => by rw [hg]; exact h)
        have hS := hS.fresh 2 rfl
        have hS := hS.turn 2 rfl (r' := RS.hp (stepK (stepO room q root t l d) b b)) (fun _ _ _ _ h => by rw [hg]; exact ⟨rfl, h⟩)
        refine ret_G2h (g := fun b => arV (some b)) (b0 := b) (l := fun u => [.int .i64 (stepO room q root t l d).root, .is u, .sl rPair (stepO room q root t l d).l]) (k2 := fun b2 => stepK (stepO room q root t l d) b b2) hG hS rfl (.cell (n := 103) (ag := true) (sz := 4) rfl .is rfl (by kernel_rfl) (by kernel_rfl) (by kernel_rfl) (.tmp rfl .nil)) (.two (.aggU rfl (by rw [hg]; rfl)) (.bool (by first | rfl | (simp [hokf, tSize]; done) | (simp [hokf, tSize]; omega)))) rfl rfl
       ·skip
        have hw : ¬ (delM room q d.key t root).2.1 = 2 := by simpa using hc10
        obtain ⟨e, r, hM, hk2, _⟩ : ∃ (e : List Cell) (r : Int), (delM room q d.key t root) = (q ++ e, 0, r) ∧ MapOk (q ++ e) (delT d.key t) r ∧ (e.length : Int) ≤ 3 * (tHigh t + 1) := by rcases hk.del (room := room) d.key (by omega) with ⟨h, _⟩ | ⟨_, h | ⟨h, _⟩⟩; exact absurd hlk h; exact h; rw [h] at hw; exact absurd rfl hw
        have hokf := True.intro
        have hg : (stepO room q root t l d) = ⟨q ++ e, r, delT d.key t, delP l d.key, none⟩ := by rw [hp]; unfold stepDel; rw [if_neg hw0, if_neg hw, hM]
        rw [hM] at hS
        refine wp_skip ?_
        refine then_n ?_
        refine wp_seq ?_
        refine region_seq hS (by kernel_rfl)
          (cF rfl (o_load (ag := true) (sz := 2) 107 .is (by kernel_rfl) (by kernel_rfl) (by kernel_rfl) (by rfl)) r1 r1
          (cF rfl (o_fieldAddr (off := 2) 101 .is (by kernel_rfl) (by rfl)) r1 r1
          (cF rfl (o_load (ag := false) (sz := 1) 101 .adr (by kernel_rfl) (by kernel_rfl) (by kernel_rfl) (by rfl)) r1 r1
          (cF rfl (o_move .t (by rfl)) r1 trivial
          (cF rfl (o_build (r := [(0, .tmp 131), (1, .tmp 133), (2, .tmp 134)]) (zs := [.pointer none, .int .i64 0, .pointer none, .slice none 0 0]) (pl := [(0, 2), (2, 1), (3, 1)]) (by kernel_rfl) (by kernel_rfl) (.agg rfl .t (by kernel_rfl) (by kernel_rfl) (.one rfl .t one_is (by kernel_rfl) (.one rfl .t one_sl (by kernel_rfl) .nil))) (by rfl)) r3 trivial
          (cF rfl (o_move .t (by rfl)) r1 trivial
          (cF rfl (o_eql .t (.ci (by kernel_rfl))) r1 trivial
          (cF rfl (o_storeA (sz := 4) 103 .is .t (by kernel_rfl) (by kernel_rfl) (by kernel_rfl)) r2 r1
          (cF rfl (o_assign .t (by rfl)) r1 trivial
          Chain.nil)))))))))
          (by kernel_rfl) (by rw [hB]; kernel_rfl) ?_
        clear hS; intro a w F hS
        obtain ⟨F, hS⟩ := hS.norm [(2, _), (4, _), (5, _)] [(0, _), (1, _), (101, _), (103, _)] r3 r4
        try dsimp only [List.map, stCells, List.length_cons, List.length_nil, Nat.reduceAdd, List.drop_succ_cons, List.drop_zero, List.drop_nil, List.take_succ_cons, List.take_zero, List.take_nil, List.cons_append, List.nil_append, zCF, ldSF, rPair, rOneM, rDeedM] at hS
        refine then_n ?_
        refine wp_ret ?_
        refine block_r ?_
        refine then_r ?_
        have hS := hS.turn 1 rfl (r' := RS.hp (arH (some b) room (stepO room q root t l d).q)) (fun _ _ _ _ h => by rw [hg]; exact h)
        have hS := hS.fresh 2 rfl
        have hS := hS.turn 2 rfl (r' := RS.hp (stepK (stepO room q root t l d) b b)) (fun _ _ _ _ h => by rw [hg]; exact ⟨rfl, h⟩)
        refine ret_G2h (g := fun b => arV (some b)) (b0 := b) (l := fun u => [.int .i64 (stepO room q root t l d).root, .is u, .sl rPair (stepO room q root t l d).l]) (k2 := fun b2 => stepK (stepO room q root t l d) b b2) hG hS rfl (.cell (n := 103) (ag := true) (sz := 4) rfl .is rfl (by kernel_rfl) (by kernel_rfl) (by kernel_rfl) (.tmp rfl .nil)) (.two (.aggU rfl (by rw [hg]; rfl)) (.bool (by first | rfl | (simp [hokf, tSize]; done) | (simp [hokf, tSize]; omega)))) rfl rfl
     ·skip
      have hkf3 := of_decide_eq_false hc8
      refine wp_seq ?_
      refine region_seq hS (by kernel_rfl)
        (cF rfl (o_eql .t (.ci (by kernel_rfl))) r1 trivial
        (cF rfl (o_assign .t (by rfl)) r1 trivial
        Chain.nil))
        (by kernel_rfl) (by rw [hB]; kernel_rfl) ?_
      clear hS; intro a w F hS
      obtain ⟨F, hS⟩ := hS.norm [(2, _), (3, _), (4, _), (5, _), (138, _)] [(0, _), (1, _), (101, _), (102, _), (103, _)] r5 r5
      try dsimp only [rPair, rOneM, rDeedM] at hS
      refine then_n ?_
      refine cond_b hS rfl (fun hc11 => ?_) (fun hc11 => ?_)
      ·skip
       have hkd : d.kind = 4 := by simpa using hc11
       have hp : stepO room q root t l d = stepMove q root t l (refRoom d.val) := by unfold stepO; rw [if_neg (by omega), if_neg (by omega), if_pos hkd]
       refine wp_seq ?_
       have hS := hS.fresh 42 rfl
       refine region_seq hS (by kernel_rfl)
         (cF rfl (o_fieldAddr (off := 3) 102 .is (by kernel_rfl) (by rfl)) r1 r1
         (cF rfl (o_load (ag := false) (sz := 1) 102 .adr (by kernel_rfl) (by kernel_rfl) (by kernel_rfl) (by rfl)) r1 r1
         (cF rfl (o_callN 42 (aNew_c d.val (refRoom d.val) rfl) Try.func9 rfl (by kernel_rfl) (Args.one .t) PV.ptr_one) r1 r1
         (cF rfl (o_assign .t (by rfl)) r1 trivial
         Chain.nil))))
         (by kernel_rfl) (by rw [hB]; kernel_rfl) ?_
       clear hS; intro a w F hS
       replace hS := hS.sub
       obtain ⟨F, hS⟩ := hS.norm [(2, _), (3, _), (4, _), (5, _), (16, _)] [(0, _), (1, _), (42, _), (101, _), (102, _), (103, _)] r5 r6
       try dsimp only [RS.sub, SF.sub, CF.sub, csub, Anc.sub, List.map, List.drop_succ_cons, List.drop_zero, List.drop_nil, List.take_succ_cons, List.take_zero, List.take_nil, ldSF, rPair, rOneM, rDeedM] at hS
       generalize Act.tau a 142 = v142 at hS
       obtain ⟨_, _, _, ho⟩ := hS.obGet 42 rfl
       obtain ⟨b2, rfl⟩ := arNamed_ptr ho
       clear ho
       replace hS := hS.turn 42 rfl (r' := RS.hp (arH (some b2) (refRoom d.val) [])) (fun _ _ _ _ h => arNamed_open h)
       obtain ⟨F, hS⟩ := hS.norm [(2, _), (3, _), (4, _), (5, _), (16, _)] [(0, _), (1, _), (42, _), (101, _), (102, _), (103, _)] r5 r6
       refine then_n ?_
       refine wp_seq ?_
       refine region_seq hS (by kernel_rfl)
         (cF rfl (o_fieldAddr (off := 0) 101 .is (by kernel_rfl) (by rfl)) r1 r1
         (cF rfl (o_load (ag := true) (sz := 2) 101 .adr (by kernel_rfl) (by kernel_rfl) (by kernel_rfl) (by rfl)) r1 r1
         (cF rfl (o_move .t (by rfl)) r1 trivial
         (cF rfl (o_callG2c 1 42 (mMove_c (some b) room q root t hk.rep (by omega) (some b2) (refRoom d.val) []) Try.func54 rfl (by kernel_rfl) rfl (Args.two (.pagg .t) .t)) r2 r2
         (cF rfl (o_move .t (by rfl)) r1 trivial
         (cF rfl (o_extract .t rfl) r1 trivial
         (cF rfl (o_extract .t rfl) r1 trivial
         (cF rfl (o_alloc (zs := [.pointer none, .int .i64 0]) 108 (by kernel_rfl)) trivial trivial
         (cF rfl (o_storeA (sz := 2) 108 .same (.conv .t .agg) (by kernel_rfl) (by kernel_rfl) (by kernel_rfl)) r2 r1
         (cF rfl (o_assign .t (by rfl)) r1 trivial
         Chain.nil))))))))))
         (by kernel_rfl) (by rw [hB]; kernel_rfl) ?_
       clear hS; intro a w F hS
       replace hS := hS.sub
       obtain ⟨F, hS⟩ := hS.norm [(2, _), (3, _), (4, _), (5, _), (16, _), (17, _), (18, _)] [(0, _), (1, _), (42, _), (101, _), (102, _), (103, _), (108, _)] r7 r7
       try dsimp only [RS.sub, SF.sub, CF.sub, csub, Anc.sub, List.map, stCells, List.length_cons, List.length_nil, Nat.reduceAdd, List.drop_succ_cons, List.drop_zero, List.drop_nil, List.take_succ_cons, List.take_zero, List.take_nil, List.cons_append, List.nil_append, zCF, ldSF, rPair, rOneM, rDeedM] at hS
       generalize Act.tau a 17 = v17 at hS
       refine then_n ?_
       refine wp_seq ?_
       refine wp_seq ?_
       refine region_seq hS (by kernel_rfl)
         (cF rfl (o_move .t (by rfl)) r1 trivial
         (cF rfl (o_eql .t (.ci (by kernel_rfl))) r1 trivial
         Chain.nil))
         (by kernel_rfl) (by rw [hB]; kernel_rfl) ?_
       clear hS; intro a w F hS
       obtain ⟨F, hS⟩ := hS.norm [(2, _), (3, _), (4, _), (5, _), (16, _), (17, _), (18, _), (151, _)] [(0, _), (1, _), (42, _), (101, _), (102, _), (103, _), (108, _)] r8 r7
       try dsimp only [rPair, rOneM, rDeedM] at hS
       refine then_n ?_
       refine cond_b hS rfl (fun hc12 => ?_) (fun hc12 => ?_)
       ·skip
        have hw : (moveM (refRoom d.val) [] t).2.1 = 2 := by simpa using hc12
        have hM : (moveM (refRoom d.val) [] t) = ([], 2, 0) ∧ refRoom d.val < (tList t).length := by rcases MapOk.move hk.inc (by omega) (refRoom d.val) with ⟨e, r, hM, _⟩ | h; (rw [hM] at hw; simp at hw); exact h
        have hokf : refRoom d.val < l.length := by rw [← hl]; exact hM.2
        have hg : (stepO room q root t l d) = ⟨q, root, t, l, none⟩ := by rw [hp]; exact if_pos hw
        rw [hM.1] at hS
        refine wp_seq ?_
        refine region_any (by kernel_rfl) hS (by kernel_rfl)
          (cF rfl (o_load (ag := true) (sz := 4) 101 .is (by kernel_rfl) (by kernel_rfl) (by kernel_rfl) (by rfl)) r1 r1
          (cF rfl (o_fieldAddr (off := 3) 102 .is (by kernel_rfl) (by rfl)) r1 r1
          (cF rfl (o_load (ag := false) (sz := 1) 102 .adr (by kernel_rfl) (by kernel_rfl) (by kernel_rfl) (by rfl)) r1 r1
          (cF rfl (o_callP (refRoom_c d.val) Try.func45 rfl (by kernel_rfl) (Args.one .t)) r1 trivial
          (cF rfl (o_fieldAddr (off := 3) 101 .is (by kernel_rfl) (by rfl)) r1 r1
          (cF rfl (o_load (ag := false) (sz := 1) 101 .adr (by kernel_rfl) (by kernel_rfl) (by kernel_rfl) (by rfl)) r1 r1
          (cF rfl (o_len_sl Try.underlying55 .t) r1 trivial
          (cF rfl (o_lss .t .t) r2 trivial
          (cF rfl (o_move .t (by rfl)) r1 trivial
          (Chain.cons (Cert.cond rfl rfl (fun h => o_move .t (by rfl))) r2 trivial
          (Chain.cons (Cert.condR rfl rfl (by rfl) (fun h => o_callG1 42 (aLen_c (some b2) (refRoom d.val) []) Try.func37 rfl (by kernel_rfl) (Args.one (.w h)))) r2 r1
          (Chain.cons (Cert.cond rfl rfl (fun h => o_eql (.w h) (.ci (by kernel_rfl)))) r2 trivial
          (cF rfl (o_and2 .t .t) r2 trivial
          (cF rfl (o_move .t (by rfl)) r1 trivial
          (Chain.cons (Cert.cond rfl rfl (fun h => o_load (ag := true) (sz := 2) 108 .is (by kernel_rfl) (by kernel_rfl) (by kernel_rfl) (by rfl))) r2 r1
          (Chain.cons (Cert.condR rfl rfl (by rfl) (fun h => o_callG1 42 (mlenT_c (some b2) (refRoom d.val) [] 0 .nil rfl) Try.func30 rfl (by kernel_rfl) (Args.one (.pagg (.w h))))) r2 r1
          (Chain.cons (Cert.cond rfl rfl (fun h => o_eql (.w h) (.ci (by kernel_rfl)))) r2 trivial
          (cF rfl (o_and2 .t .t) r2 trivial
          (cF rfl (o_storeA (sz := 4) 103 .is .t (by kernel_rfl) (by kernel_rfl) (by kernel_rfl)) r2 r1
          (cF rfl (o_assign .t (by rfl)) r1 trivial
          Chain.nil))))))))))))))))))))
          (by kernel_rfl) (by rw [hB]; kernel_rfl) ?_
        clear hS; intro a w F hS
        obtain ⟨F, hS⟩ := hS.norm [(2, _), (3, _), (4, _), (5, _), (16, _), (17, _), (18, _)] [(0, _), (1, _), (42, _), (101, _), (102, _), (103, _), (108, _)] r7 r7
        try dsimp only [List.map, stCells, List.length_cons, List.length_nil, Nat.reduceAdd, List.drop_succ_cons, List.drop_zero, List.drop_nil, List.take_succ_cons, List.take_zero, List.take_nil, List.cons_append, List.nil_append, zCF, ldSF, rPair, rOneM, rDeedM] at hS
        refine then_n ?_
        refine wp_ret ?_
        refine then_r ?_
        refine block_r ?_
        refine then_r ?_
        have hS := hS.turn 1 rfl (r' := RS.hp (arH (some b) room (stepO room q root t l d).q)) (fun _ _ _ _ h => by rw [hg]; exact h)
        have hS := hS.fresh 2 rfl
        have hS := hS.turn 2 rfl (r' := RS.hp (stepK (stepO room q root t l d) b b)) (fun _ _ _ _ h => by rw [hg]; exact ⟨rfl, h⟩)
        refine ret_G2h (g := fun b => arV (some b)) (b0 := b) (l := fun u => [.int .i64 (stepO room q root t l d).root, .is u, .sl rPair (stepO room q root t l d).l]) (k2 := fun b2 => stepK (stepO room q root t l d) b b2) hG hS rfl (.cell (n := 103) (ag := true) (sz := 4) rfl .is rfl (by kernel_rfl) (by kernel_rfl) (by kernel_rfl) (.tmp rfl .nil)) (.two (.aggU rfl (by rw [hg]; rfl)) (.bool (by first | rfl | (simp [hokf, tSize]; done) | (simp [hokf, tSize]; omega)))) rfl rfl
       ·skip
        have hw : ¬ (moveM (refRoom d.val) [] t).2.1 = 2 := by simpa using hc12
        obtain ⟨e, r, hM, hk2, hel⟩ : ∃ (e : List Cell) (r : Int), (moveM (refRoom d.val) [] t) = (e, 0, r) ∧ MapOk e (allT ((tList t).length + 1) (tList t)) r ∧ e.length = (tList t).length := by rcases MapOk.move hk.inc (by omega) (refRoom d.val) with h | ⟨h, _⟩; exact h; rw [h] at hw; exact absurd rfl hw
        rw [hM] at hS
        obtain ⟨_, _, _, ho⟩ := hS.obGet 42 rfl
        have hI : ArOk (refRoom d.val) e := arH_ok ho
        clear ho
        have hokf : ((l.length : Int) ≤ refRoom d.val) ∧ e.length = l.length := by rw [hl] at hel; exact ⟨by rw [← hel]; exact hI.le, hel⟩
        have hg : (stepO room q root t l d) = ⟨q, r, allT ((tList t).length + 1) (tList t), l, some (refRoom d.val, e)⟩ := by rw [hp]; unfold stepMove; rw [if_neg hw, hM]
        refine wp_skip ?_
        refine then_n ?_
        refine wp_seq ?_
        refine region_any (by kernel_rfl) hS (by kernel_rfl)
          (cF rfl (o_load (ag := true) (sz := 2) 108 .is (by kernel_rfl) (by kernel_rfl) (by kernel_rfl) (by rfl)) r1 r1
          (cF rfl (o_move .t (by rfl)) r1 trivial
          (cF rfl (o_fieldAddr (off := 3) 101 .is (by kernel_rfl) (by rfl)) r1 r1
          (cF rfl (o_load (ag := false) (sz := 1) 101 .adr (by kernel_rfl) (by kernel_rfl) (by kernel_rfl) (by rfl)) r1 r1
          (cF rfl (o_build (r := [(0, .tmp 170), (1, .tmp 171), (2, .tmp 173)]) (zs := [.pointer none, .int .i64 0, .pointer none, .slice none 0 0]) (pl := [(0, 2), (2, 1), (3, 1)]) (by kernel_rfl) (by kernel_rfl) (.agg rfl .t (by kernel_rfl) (by kernel_rfl) (.one rfl .t one_is (by kernel_rfl) (.one rfl .t one_sl (by kernel_rfl) .nil))) (by rfl)) r3 trivial
          (cF rfl (o_move .t (by rfl)) r1 trivial
          (cF rfl (o_eql .t (.ci (by kernel_rfl))) r1 trivial
          (cF rfl (o_move .t (by rfl)) r1 trivial
          (Chain.cons (Cert.cond rfl rfl (fun h => o_fieldAddr (off := 3) 102 .is (by kernel_rfl) (by rfl))) r2 r1
          (Chain.cons (Cert.cond rfl rfl (fun h => o_load (ag := false) (sz := 1) 102 (.w h .adr) (by kernel_rfl) (by kernel_rfl) (by kernel_rfl) (by rfl))) r2 r1
          (Chain.cons (Cert.cond rfl rfl (fun h => o_callP (refRoom_c d.val) Try.func45 rfl (by kernel_rfl) (Args.one (.w h)))) r2 trivial
          (Chain.cons (Cert.cond rfl rfl (fun h => o_fieldAddr (off := 3) 101 .is (by kernel_rfl) (by rfl))) r2 r1
          (Chain.cons (Cert.cond rfl rfl (fun h => o_load (ag := false) (sz := 1) 101 (.w h .adr) (by kernel_rfl) (by kernel_rfl) (by kernel_rfl) (by rfl))) r2 r1
          (Chain.cons (Cert.cond rfl rfl (fun h => o_len_sl Try.underlying55 (.w h))) r2 trivial
          (Chain.cons (Cert.cond rfl rfl (fun h => o_geq (.w h) (.w h))) r3 trivial
          (cF rfl (o_and2 .t .t) r2 trivial
          (cF rfl (o_move .t (by rfl)) r1 trivial
          (Chain.cons (Cert.cond rfl rfl (fun h => o_move .t (by rfl))) r2 trivial
          (Chain.cons (Cert.condR rfl rfl (by rfl) (fun h => o_callG1 42 (aLen_c (some b2) (refRoom d.val) e) Try.func37 rfl (by kernel_rfl) (Args.one (.w h)))) r2 r1
          (Chain.cons (Cert.cond rfl rfl (fun h => o_fieldAddr (off := 3) 101 .is (by kernel_rfl) (by rfl))) r2 r1
          (Chain.cons (Cert.cond rfl rfl (fun h => o_load (ag := false) (sz := 1) 101 (.w h .adr) (by kernel_rfl) (by kernel_rfl) (by kernel_rfl) (by rfl))) r2 r1
          (Chain.cons (Cert.cond rfl rfl (fun h => o_len_sl Try.underlying55 (.w h))) r2 trivial
          (Chain.cons (Cert.cond rfl rfl (fun h => o_eql (.w h) (.w h))) r3 trivial
          (cF rfl (o_and2 .t .t) r2 trivial
          (cF rfl (o_storeA (sz := 4) 103 .is .t (by kernel_rfl) (by kernel_rfl) (by kernel_rfl)) r2 r1
          (cF rfl (o_assign .t (by rfl)) r1 trivial
          Chain.nil))))))))))))))))))))))))))
          (by kernel_rfl) (by rw [hB]; kernel_rfl) ?_
        clear hS; intro a w F hS
        obtain ⟨F, hS⟩ := hS.norm [(2, _), (4, _), (5, _)] [(0, _), (1, _), (42, _), (101, _), (103, _)] r3 r5
        try dsimp only [List.map, stCells, List.length_cons, List.length_nil, Nat.reduceAdd, List.drop_succ_cons, List.drop_zero, List.drop_nil, List.take_succ_cons, List.take_zero, List.take_nil, List.cons_append, List.nil_append, zCF, ldSF, rPair, rOneM, rDeedM] at hS
        refine then_n ?_
        refine wp_ret ?_
        refine block_r ?_
        refine then_r ?_
        have hS := hS.turn 1 rfl (r' := RS.hp (arH (some b) room (stepO room q root t l d).q)) (fun _ _ _ _ h => by rw [hg]; exact h)
        obtain ⟨F, hS⟩ := hS.rename 42 2 rfl rfl
        have hS := hS.turn 2 rfl (r' := RS.hp (stepK (stepO room q root t l d) b b2)) (fun _ _ _ _ h => by rw [hg]; exact h)
        refine ret_G2h (g := fun b => arV (some b)) (b0 := b2) (l := fun u => [.int .i64 (stepO room q root t l d).root, .is u, .sl rPair (stepO room q root t l d).l]) (k2 := fun b2 => stepK (stepO room q root t l d) b b2) hG hS rfl (.cell (n := 103) (ag := true) (sz := 4) rfl .is rfl (by kernel_rfl) (by kernel_rfl) (by kernel_rfl) (.tmp rfl .nil)) (.two (.aggU rfl (by rw [hg]; rfl)) (.bool (by first | rfl | (simp [hokf, tSize]; done) | (simp [hokf, tSize]; omega)))) rfl rfl
      ·skip
       have hkf4 := of_decide_eq_false hc11
       have hokf := True.intro
       have hg : (stepO room q root t l d) = ⟨q, root, t, l, none⟩ := by unfold stepO; rw [if_neg (by omega), if_neg (by omega), if_neg (by omega)]
       refine wp_skip ?_
       refine block_n ?_
       refine then_n ?_
       refine wp_seq ?_
       refine region_seq hS (by kernel_rfl)
         (cF rfl (o_load (ag := true) (sz := 4) 101 .is (by kernel_rfl) (by kernel_rfl) (by kernel_rfl) (by rfl)) r1 r1
         (cF rfl (o_storeA (sz := 4) 103 .is .t (by kernel_rfl) (by kernel_rfl) (by kernel_rfl)) r2 r1
         (cF rfl (o_assign .cb (by rfl)) trivial trivial
         Chain.nil)))
         (by kernel_rfl) (by rw [hB]; kernel_rfl) ?_
       clear hS; intro a w F hS
       obtain ⟨F, hS⟩ := hS.norm [(4, _), (5, _)] [(0, _), (1, _), (103, _)] r2 r3
       try dsimp only [List.map, stCells, List.length_cons, List.length_nil, Nat.reduceAdd, List.drop_succ_cons, List.drop_zero, List.drop_nil, List.take_succ_cons, List.take_zero, List.take_nil, List.cons_append, List.nil_append, zCF, ldSF, rPair, rOneM, rDeedM] at hS
       refine then_n ?_
       refine wp_ret ?_
       have hS := hS.turn 1 rfl (r' := RS.hp (arH (some b) room (stepO room q root t l d).q)) (fun _ _ _ _ h => by rw [hg]; exact h)
       have hS := hS.fresh 2 rfl
       have hS := hS.turn 2 rfl (r' := RS.hp (stepK (stepO room q root t l d) b b)) (fun _ _ _ _ h => by rw [hg]; exact ⟨rfl, h⟩)
       refine ret_G2h (g := fun b => arV (some b)) (b0 := b) (l := fun u => [.int .i64 (stepO room q root t l d).root, .is u, .sl rPair (stepO room q root t l d).l]) (k2 := fun b2 => stepK (stepO room q root t l d) b b2) hG hS rfl (.cell (n := 103) (ag := true) (sz := 4) rfl .is rfl (by kernel_rfl) (by kernel_rfl) (by kernel_rfl) (.tmp rfl .nil)) (.two (.aggU rfl (by rw [hg]; rfl)) (.bool (by first | rfl | (simp [hokf, tSize]; done) | (simp [hokf, tSize]; omega)))) rfl rfl

theorem tells06_c (b : Nat) (room : Int) (q : List Cell) (root : Int) (t : Tree) (l : List PairD) (d : DeedM) (n : Int) (h1 : OneOk q root t l n) (hn : n ≤ 1000) (hqq : q.length ≤ 65536) : FnG Try.prog 24 1 [.agg [.is (arV (some b)), .int .i64 root, .is (arV (some b)), .sl rPair l], .agg (rDeedM d)] [arH (some b) room q] (.bool true) (fun _ => [arH (some b) room q]) := by
  refine FnG.mk Try.func24 rfl Try.ntmps24 rfl (by kernel_rfl) ?_
  intro B F0 a w F hB hG hS
  obtain ⟨hk, hl, hs⟩ := id h1
  have hsz := tSize_list t
  rw [hl] at hsz
  refine wp_seq ?_
  refine region_seq hS (by kernel_rfl)
    (cF rfl (o_boxA 101 (.conv .t .agg) (by kernel_rfl)) r1 trivial
    (cF rfl (o_boxA 102 (.conv .t .agg) (by kernel_rfl)) r1 trivial
    (cF rfl (o_assign .cb (by rfl)) trivial trivial
    Chain.nil)))
    (by kernel_rfl) (by rw [hB]; kernel_rfl) ?_
  clear hS; intro a w F hS
  replace hS := hS.sub
  obtain ⟨F, hS⟩ := hS.norm [(2, _), (3, _), (4, _)] [(0, _), (1, _), (101, _), (102, _)] r3 r4
  try dsimp only [RS.sub, SF.sub, CF.sub, csub, Anc.sub, List.map, zCF, rPair, rOneM, rDeedM] at hS
  generalize Act.tau a 2 = v2 at hS
  generalize Act.tau a 3 = v3 at hS
  refine then_n ?_
  refine wp_seq ?_
  refine region_seq hS (by kernel_rfl)
    (cF rfl (o_fieldAddr (off := 0) 101 .is (by kernel_rfl) (by rfl)) r1 r1
    (cF rfl (o_load (ag := true) (sz := 2) 101 .adr (by kernel_rfl) (by kernel_rfl) (by kernel_rfl) (by rfl)) r1 r1
    (cF rfl (o_fieldAddr (off := 2) 102 .is (by kernel_rfl) (by rfl)) r1 r1
    (cF rfl (o_load (ag := false) (sz := 1) 102 .adr (by kernel_rfl) (by kernel_rfl) (by kernel_rfl) (by rfl)) r1 r1
    (cF rfl (o_callG1 1 (mGetL_c (some b) room q root d.key t l n h1) Try.func53 rfl (by kernel_rfl) (Args.two (.pagg .t) .t)) r2 r1
    (cF rfl (o_move .t (by rfl)) r1 trivial
    (cF rfl (o_extract .t rfl) r1 trivial
    (cF rfl (o_extract .t rfl) r1 trivial
    (cF rfl (o_assign .t (by rfl)) r1 trivial
    (cF rfl (o_assign .t (by rfl)) r1 trivial
    Chain.nil))))))))))
    (by kernel_rfl) (by rw [hB]; kernel_rfl) ?_
  clear hS; intro a w F hS
  obtain ⟨F, hS⟩ := hS.norm [(2, _), (3, _), (4, _), (5, _), (6, _)] [(0, _), (1, _), (101, _), (102, _)] r5 r4
  try dsimp only [List.map, List.drop_succ_cons, List.drop_zero, List.drop_nil, List.take_succ_cons, List.take_zero, List.take_nil, ldSF, rPair, rOneM, rDeedM] at hS
  refine then_n ?_
  refine wp_seq ?_
  refine region_seq hS (by kernel_rfl)
    (cF rfl (o_fieldAddr (off := 3) 101 .is (by kernel_rfl) (by rfl)) r1 r1
    (cF rfl (o_load (ag := false) (sz := 1) 101 .adr (by kernel_rfl) (by kernel_rfl) (by kernel_rfl) (by rfl)) r1 r1
    (cF rfl (o_fieldAddr (off := 2) 102 .is (by kernel_rfl) (by rfl)) r1 r1
    (cF rfl (o_load (ag := false) (sz := 1) 102 .adr (by kernel_rfl) (by kernel_rfl) (by kernel_rfl) (by rfl)) r1 r1
    (cF rfl (o_callP (get06_c l d.key) Try.func57 rfl (by kernel_rfl) (Args.two .t .t)) r2 trivial
    (cF rfl (o_move .t (by rfl)) r1 trivial
    (cF rfl (o_extract .t rfl) r1 trivial
    (cF rfl (o_extract .t rfl) r1 trivial
    (cF rfl (o_assign .t (by rfl)) r1 trivial
    (cF rfl (o_assign .t (by rfl)) r1 trivial
    Chain.nil))))))))))
    (by kernel_rfl) (by rw [hB]; kernel_rfl) ?_
  clear hS; intro a w F hS
  obtain ⟨F, hS⟩ := hS.norm [(2, _), (3, _), (4, _), (5, _), (6, _), (7, _), (8, _)] [(0, _), (1, _), (101, _), (102, _)] r7 r4
  try dsimp only [List.map, List.drop_succ_cons, List.drop_zero, List.drop_nil, List.take_succ_cons, List.take_zero, List.take_nil, ldSF, rPair, rOneM, rDeedM] at hS
  refine then_n ?_
  refine wp_seq ?_
  refine region_seq hS (by kernel_rfl)
    (cF rfl (o_fieldAddr (off := 0) 101 .is (by kernel_rfl) (by rfl)) r1 r1
    (cF rfl (o_load (ag := true) (sz := 2) 101 .adr (by kernel_rfl) (by kernel_rfl) (by kernel_rfl) (by rfl)) r1 r1
    (cF rfl (o_fieldAddr (off := 3) 102 .is (by kernel_rfl) (by rfl)) r1 r1
    (cF rfl (o_load (ag := false) (sz := 1) 102 .adr (by kernel_rfl) (by kernel_rfl) (by kernel_rfl) (by rfl)) r1 r1
    (cF rfl (o_callG1 1 (mAtL2_c (some b) room q root d.val t l n h1 (by omega)) Try.func31 rfl (by kernel_rfl) (Args.two (.pagg .t) .t)) r2 r1
    (cF rfl (o_move .t (by rfl)) r1 trivial
    (cF rfl (o_extract .t rfl) r1 trivial
    (cF rfl (o_extract .t rfl) r1 trivial
    (cF rfl (o_alloc (zs := [.int .i64 0, .int .i64 0]) 103 (by kernel_rfl)) trivial trivial
    (cF rfl (o_storeA (sz := 2) 103 .same (.conv .t .agg) (by kernel_rfl) (by kernel_rfl) (by kernel_rfl)) r2 r1
    (cF rfl (o_assign .t (by rfl)) r1 trivial
    Chain.nil)))))))))))
    (by kernel_rfl) (by rw [hB]; kernel_rfl) ?_
  clear hS; intro a w F hS
  replace hS := hS.sub
  obtain ⟨F, hS⟩ := hS.norm [(2, _), (3, _), (4, _), (5, _), (6, _), (7, _), (8, _), (9, _), (10, _)] [(0, _), (1, _), (101, _), (102, _), (103, _)] ⟨rfl, rfl, rfl, rfl, rfl, rfl, rfl, rfl, rfl, trivial⟩ r5
  try dsimp only [RS.sub, SF.sub, CF.sub, csub, Anc.sub, List.map, stCells, List.length_cons, List.length_nil, Nat.reduceAdd, List.drop_succ_cons, List.drop_zero, List.drop_nil, List.take_succ_cons, List.take_zero, List.take_nil, List.cons_append, List.nil_append, zCF, ldSF, rPair, rOneM, rDeedM] at hS
  generalize Act.tau a 9 = v9 at hS
  refine then_n ?_
  refine wp_seq ?_
  refine wp_seq ?_
  refine region_any (by kernel_rfl) hS (by kernel_rfl)
    (cF rfl (o_move .t (by rfl)) r1 trivial
    (cF rfl (o_move .t (by rfl)) r1 trivial
    (cF rfl (o_neq .t .t) r2 trivial
    (cF rfl (o_move .t (by rfl)) r1 trivial
    (Chain.cons (Cert.cond rfl rfl (fun h => o_move .t (by rfl))) r2 trivial
    (Chain.cons (Cert.cond rfl rfl (fun h => o_move .t (by rfl))) r2 trivial
    (Chain.cons (Cert.cond rfl rfl (fun h => o_neqB Try.underlying4 (.w h) (.w h))) r3 trivial
    (cF rfl (o_or2 .t .t) r2 trivial
    (cF rfl (o_move .t (by rfl)) r1 trivial
    (Chain.cons (Cert.cond rfl rfl (fun h => o_move .t (by rfl))) r2 trivial
    (Chain.cons (Cert.cond rfl rfl (fun h => o_fieldAddr (off := 3) 102 .is (by kernel_rfl) (by rfl))) r2 r1
    (Chain.cons (Cert.cond rfl rfl (fun h => o_load (ag := false) (sz := 1) 102 (.w h .adr) (by kernel_rfl) (by kernel_rfl) (by kernel_rfl) (by rfl))) r2 r1
    (Chain.cons (Cert.cond rfl rfl (fun h => o_geq (.w h) (.ci (by kernel_rfl)))) r2 trivial
    (Chain.cons (Cert.cond rfl rfl (fun h => o_move (.w h) (by rfl))) r2 trivial
    (Chain.cons (Cert.cond2 rfl rfl (fun h => o_fieldAddr (off := 3) 102 .is (by kernel_rfl) (by rfl))) r2 r1
    (Chain.cons (Cert.cond2 rfl rfl (fun h => o_load (ag := false) (sz := 1) 102 (.w h .adr) (by kernel_rfl) (by kernel_rfl) (by kernel_rfl) (by rfl))) r2 r1
    (Chain.cons (Cert.cond2 rfl rfl (fun h => o_fieldAddr (off := 3) 101 .is (by kernel_rfl) (by rfl))) r2 r1
    (Chain.cons (Cert.cond2 rfl rfl (fun h => o_load (ag := false) (sz := 1) 101 (.w h .adr) (by kernel_rfl) (by kernel_rfl) (by kernel_rfl) (by rfl))) r2 r1
    (Chain.cons (Cert.cond2 rfl rfl (fun h => o_len_sl Try.underlying55 (.w h))) r2 trivial
    (Chain.cons (Cert.cond2 rfl rfl (fun h => o_lss (.w h) (.w h))) r3 trivial
    (Chain.cons (Cert.cond rfl rfl (fun h => o_and2 (.w h) (.wc h))) r3 trivial
    (Chain.cons (Cert.cond rfl rfl (fun h => o_neqB Try.underlying4 (.w h) (.w h))) r3 trivial
    (cF rfl (o_or2 .t .t) r2 trivial
    (cF rfl (o_move .t (by rfl)) r1 trivial
    (Chain.cons (Cert.cond rfl rfl (fun h => o_move .t (by rfl))) r2 trivial
    (Chain.cons (Cert.cond rfl rfl (fun h => o_move (.w h) (by rfl))) r2 trivial
    (Chain.cons (Cert.cond2 rfl rfl (fun h => o_load (ag := true) (sz := 2) 103 .is (by kernel_rfl) (by kernel_rfl) (by kernel_rfl) (by rfl))) r2 r1
    (Chain.cons (Cert.cond2 rfl rfl (fun h => o_fieldAddr (off := 3) 101 .is (by kernel_rfl) (by rfl))) r2 r1
    (Chain.cons (Cert.cond2 rfl rfl (fun h => o_load (ag := false) (sz := 1) 101 (.w h .adr) (by kernel_rfl) (by kernel_rfl) (by kernel_rfl) (by rfl))) r2 r1
    (Chain.cons (Cert.cond2 rfl rfl (fun h => o_fieldAddr (off := 3) 102 .is (by kernel_rfl) (by rfl))) r2 r1
    (Chain.cons (Cert.cond2 rfl rfl (fun h => o_load (ag := false) (sz := 1) 102 (.w h .adr) (by kernel_rfl) (by kernel_rfl) (by kernel_rfl) (by rfl))) r2 r1
    (Chain.cons (Cert.cond2 rfl rfl (fun h => o_indexAddr_sl (sz := 2) (.mk Try.underlying55 (by kernel_rfl)) (by intro x; rfl) (.w h) (.w h) (by simp at h; omega) (by simp at h; omega))) r3 trivial
    (Chain.cons (Cert.cond2 rfl rfl (fun h => o_load_ref (ag := true) (sz := 2) (.w h) (by kernel_rfl) (by kernel_rfl) (by kernel_rfl))) r2 trivial
    (Chain.cons (Cert.cond2 rfl rfl (fun h => o_neqS (ks := [true, true]) (by kernel_rfl) (.w h) (.w h) (.int (.int .nil)))) r3 trivial
    (Chain.cons (Cert.cond rfl rfl (fun h => o_and2 (.w h) (.wc h))) r3 trivial
    (cF rfl (o_or2 .t .t) r2 trivial
    (cF rfl (o_move .t (by rfl)) r1 trivial
    (Chain.cons (Cert.cond rfl rfl (fun h => o_move .t (by rfl))) r2 trivial
    (Chain.cons (Cert.cond rfl rfl (fun h => o_not (.w h))) r2 trivial
    (Chain.cons (Cert.cond rfl rfl (fun h => o_move (.w h) (by rfl))) r2 trivial
    (Chain.cons (Cert.cond2 rfl rfl (fun h => o_load (ag := true) (sz := 2) 103 .is (by kernel_rfl) (by kernel_rfl) (by kernel_rfl) (by rfl))) r2 r1
    (Chain.cons (Cert.cond2 rfl rfl (fun h => o_build (r := []) (zs := [.int .i64 0, .int .i64 0]) (pl := [(0, 1), (1, 1)]) (by kernel_rfl) (by kernel_rfl) .nil (by rfl))) r1 trivial
    (Chain.cons (Cert.cond2 rfl rfl (fun h => o_neqS (ks := [true, true]) (by kernel_rfl) (.w h) (.w h) (.int (.int .nil)))) r3 trivial
    (Chain.cons (Cert.cond rfl rfl (fun h => o_and2 (.w h) (.wc h))) r3 trivial
    (cF rfl (o_or2 .t .t) r2 trivial
    Chain.nil)))))))))))))))))))))))))))))))))))))))))))))
    (by kernel_rfl) (by rw [hB]; kernel_rfl) ?_
  clear hS; intro a w F hS
  obtain ⟨F, hS⟩ := hS.norm [(2, _), (3, _), (4, _), (79, _)] [(0, _), (1, _), (101, _), (102, _)] r4 r4
  try dsimp only [List.map, stCells, List.length_cons, List.length_nil, Nat.reduceAdd, List.drop_succ_cons, List.drop_zero, List.drop_nil, List.take_succ_cons, List.take_zero, List.take_nil, List.cons_append, List.nil_append, zCF, ldSF, rPair, rOneM, rDeedM] at hS
  try simp only [Int.toNat_natCast] at hS
  refine then_n ?_
  refine cond_b hS rfl (fun hc0 => ?_) (fun hc0 => ?_)
  ·skip
   by_cases hb : 0 ≤ d.val ∧ d.val < l.length
   ·simp [atL, hb] at hc0
   ·have e : decide (0 ≤ d.val ∧ d.val < (l.length : Int)) = (decide (0 ≤ d.val) && decide (d.val < (l.length : Int))) := by simp
    have e0 : atL d.val l = default := if_neg hb
    rw [e0, ← e, decide_eq_false hb] at hc0; simp at hc0
    exact absurd hc0 (by decide)
  ·skip
   refine wp_skip ?_
   refine then_n ?_
   refine wp_seq ?_
   refine region_any (by kernel_rfl) hS (by kernel_rfl)
     (cF rfl (o_fieldAddr (off := 0) 101 .is (by kernel_rfl) (by rfl)) r1 r1
     (cF rfl (o_load (ag := true) (sz := 2) 101 .adr (by kernel_rfl) (by kernel_rfl) (by kernel_rfl) (by rfl)) r1 r1
     (cF rfl (o_fieldAddr (off := 2) 102 .is (by kernel_rfl) (by rfl)) r1 r1
     (cF rfl (o_load (ag := false) (sz := 1) 102 .adr (by kernel_rfl) (by kernel_rfl) (by kernel_rfl) (by rfl)) r1 r1
     (cF rfl (o_callG1 1 (mRankL2_c (some b) room q root d.key t l n h1 (by omega)) Try.func32 rfl (by kernel_rfl) (Args.two (.pagg .t) .t)) r2 r1
     (cF rfl (o_fieldAddr (off := 3) 101 .is (by kernel_rfl) (by rfl)) r1 r1
     (cF rfl (o_load (ag := false) (sz := 1) 101 .adr (by kernel_rfl) (by kernel_rfl) (by kernel_rfl) (by rfl)) r1 r1
     (cF rfl (o_fieldAddr (off := 2) 102 .is (by kernel_rfl) (by rfl)) r1 r1
     (cF rfl (o_load (ag := false) (sz := 1) 102 .adr (by kernel_rfl) (by kernel_rfl) (by kernel_rfl) (by rfl)) r1 r1
     (cF rfl (o_callP (rank06_c l d.key) Try.func58 rfl (by kernel_rfl) (Args.two .t .t)) r2 trivial
     (cF rfl (o_eql .t .t) r2 trivial
     (cF rfl (o_move .t (by rfl)) r1 trivial
     (Chain.cons (Cert.cond rfl rfl (fun h => o_fieldAddr (off := 0) 101 .is (by kernel_rfl) (by rfl))) r2 r1
     (Chain.cons (Cert.cond rfl rfl (fun h => o_load (ag := true) (sz := 2) 101 (.w h .adr) (by kernel_rfl) (by kernel_rfl) (by kernel_rfl) (by rfl))) r2 r1
     (Chain.cons (Cert.condR rfl rfl (by rfl) (fun h => o_callG1 1 (mlenT_c (some b) room q root t h1.1.rep) Try.func30 rfl (by kernel_rfl) (Args.one (.pagg (.w h))))) r2 r1
     (Chain.cons (Cert.cond rfl rfl (fun h => o_fieldAddr (off := 3) 101 .is (by kernel_rfl) (by rfl))) r2 r1
     (Chain.cons (Cert.cond rfl rfl (fun h => o_load (ag := false) (sz := 1) 101 (.w h .adr) (by kernel_rfl) (by kernel_rfl) (by kernel_rfl) (by rfl))) r2 r1
     (Chain.cons (Cert.cond rfl rfl (fun h => o_len_sl Try.underlying55 (.w h))) r2 trivial
     (Chain.cons (Cert.cond rfl rfl (fun h => o_eql (.w h) (.w h))) r3 trivial
     (cF rfl (o_and2 .t .t) r2 trivial
     (cF rfl (o_move .t (by rfl)) r1 trivial
     (Chain.cons (Cert.cond rfl rfl (fun h => o_fieldAddr (off := 0) 101 .is (by kernel_rfl) (by rfl))) r2 r1
     (Chain.cons (Cert.cond rfl rfl (fun h => o_load (ag := true) (sz := 2) 101 (.w h .adr) (by kernel_rfl) (by kernel_rfl) (by kernel_rfl) (by rfl))) r2 r1
     (Chain.cons (Cert.condR rfl rfl (by rfl) (fun h => o_callG1 1 (mList_c (some b) room q root t h1.1.rep (by omega)) Try.func27 rfl (by kernel_rfl) (Args.one (.pagg (.w h))))) r2 r1
     (Chain.cons (Cert.cond rfl rfl (fun h => o_fieldAddr (off := 3) 101 .is (by kernel_rfl) (by rfl))) r2 r1
     (Chain.cons (Cert.cond rfl rfl (fun h => o_load (ag := false) (sz := 1) 101 (.w h .adr) (by kernel_rfl) (by kernel_rfl) (by kernel_rfl) (by rfl))) r2 r1
     (Chain.cons (Cert.cond rfl rfl (fun h => o_callP (same06_c _ _) Try.func28 rfl (by kernel_rfl) (Args.two (.w h) (.w h)))) r3 trivial
     (cF rfl (o_and2 .t .t) r2 trivial
     (cF rfl (o_assign .t (by rfl)) r1 trivial
     Chain.nil)))))))))))))))))))))))))))))
     (by kernel_rfl) (by rw [hB]; kernel_rfl) ?_
   clear hS; intro a w F hS
   obtain ⟨F, hS⟩ := hS.norm [(4, _)] [(0, _), (1, _)] r1 r2
   try dsimp only [List.map, List.drop_succ_cons, List.drop_zero, List.drop_nil, List.take_succ_cons, List.take_zero, List.take_nil, ldSF, rPair, rOneM, rDeedM] at hS
   refine then_n ?_
   refine wp_ret ?_
   refine ret_G1 hG hS rfl (.tmp rfl .nil) (.one (.bool (by first | rfl | simp [hsz, hl]))) rfl

end Go.Proofs.Ytdfpljecogijaaa
