/- Sequences against the document: one deed. No condition beyond those that each theorem says. -/
import Derived.Test.YtdfpljecogijaaaSq7
import Derived.Test.YtdfpljecogijaaaAvG
namespace Go.Proofs.Ytdfpljecogijaaa
open Go Go.Gm
set_option linter.unusedVariables false
set_option linter.unusedSimpArgs false
set_option maxHeartbeats 4000000
set_option maxRecDepth 8000


def jsel {α : Type} (th : Bool) (why : Int) (a b : α) : α := if th = false ∨ why = 2 then a else b
structure JOk (th : Bool) (why : Int) (en : Bool) (len was : Int) (ts : Tree) : Prop where
  a : th = false → why = 1 ∧ len = was ∧ tSize ts = 0
  b : th = true → why = 2 → en = false ∧ len = was ∧ tSize ts = 0
  c : th = true → why ≠ 2 → why = 0
structure StepQ where
  q : List Cell
  root : Int
  t : Tree
  l : List Int
  mv : Option (Int × List Cell)
/-- A sequence that has just some numbers. -/
def OneQ (q : List Cell) (root : Int) (t : Tree) (l : List Int) (n : Int) : Prop := SeqOk q t root ∧ tVals t = l ∧ tSize t ≤ n
theorem OneQ.app {q e : List Cell} {root : Int} {t : Tree} {l : List Int} {n m : Int} (h : OneQ q root t l n) (hm : n ≤ m) : OneQ (q ++ e) root t l m := ⟨h.1.app, h.2.1, Int.le_trans h.2.2 hm⟩
def FamO (q' : List Cell) (OKf : List Cell → Prop) : Option (Int × List Cell) → Prop
  | none => OKf q'
  | some x => OKf x.2
def StepQOk (q : List Cell) (n : Int) (o : StepQ) : Prop := (∃ e, o.q = q ++ e) ∧ FamO o.q (fun q2 => OneQ q2 o.root o.t o.l n) o.mv
def stepEd (th : Bool) (M : St) (root : Int) (t T' : Tree) (l L' : List Int) : StepQ := ⟨M.1, jsel th M.2.1 root M.2.2, jsel th M.2.1 t T', jsel th M.2.1 l L', none⟩
def EdOk (room : Int) (q : List Cell) (t : Tree) (th : Bool) (M : St) (T' : Tree) : Prop :=
  (th = false ∧ M = (q, 1, 0)) ∨ (th = true ∧ ((∃ (e : List Cell) (r : Int), M = (q ++ e, 0, r) ∧ SeqOk (q ++ e) T' r ∧ (e.length : Int) ≤ 3 * (tHigh t + 1)) ∨ (M = (q, 2, 0) ∧ room < q.length + 3 * (tHigh t + 1))))
theorem judge_gen {room root : Int} {q : List Cell} {t T' : Tree} {l L' : List Int} {n : Int} {th : Bool} {M : St} (h : OneQ q root t l n) (hM : EdOk room q t th M T') (hL : th = true → tVals T' = L' ∧ tSize T' ≤ n + 1) (hh : 0 ≤ tHigh t ∧ tHigh t ≤ 40) :
    Rep kz M.1 (jsel th M.2.1 .nil T') M.2.2 ∧ JOk th M.2.1 (decide (IntKind.wrap .i64 (3 * IntKind.wrap .i64 (tHigh t + 1)) ≤ room - q.length)) M.1.length q.length (jsel th M.2.1 .nil T') ∧ StepQOk q (n + 1) (stepEd th M root t T' l L') := by
  rcases hM with ⟨rfl, rfl⟩ | ⟨rfl, ⟨e, r, rfl, hk, he⟩ | ⟨rfl, hr⟩⟩
  · exact ⟨rfl, ⟨fun _ => ⟨rfl, rfl, rfl⟩, fun h => (nomatch h), fun h => (nomatch h)⟩, ⟨[], by simp [stepEd]⟩, h.1, h.2.1, by show tSize t ≤ _; have := h.2.2; omega⟩
  · obtain ⟨h1, h2⟩ := hL rfl
    exact ⟨hk.rep, ⟨fun h => (nomatch h), fun _ h => (nomatch h), fun _ _ => rfl⟩, ⟨e, rfl⟩, hk, h1, h2⟩
  · refine ⟨rfl, ⟨fun h => (nomatch h), fun _ _ => ⟨decide_eq_false ?_, rfl, rfl⟩, fun _ h => absurd rfl h⟩, ⟨[], by simp [stepEd]⟩, h.1, h.2.1, by show tSize t ≤ _; have := h.2.2; omega⟩
    rw [wrap_i64 (x := tHigh t + 1) (by omega), wrap_i64 (by omega)]
    omega
theorem ins_ed {room root : Int} {q : List Cell} {t : Tree} {l : List Int} {n : Int} (h : OneQ q root t l n) (hn : n < 1000000) (j x : Int) :
    EdOk room q t (decide (0 ≤ j ∧ j ≤ l.length)) (qInsM room q x t root j) (insT x t j) ∧ (decide (0 ≤ j ∧ j ≤ (l.length : Int)) = true → tVals (insT x t j) = insL l j x ∧ tSize (insT x t j) ≤ n + 1) := by
  have hs := h.2.2
  have hv := tVals_len t
  rw [h.2.1] at hv
  by_cases hj : 0 ≤ j ∧ j ≤ l.length
  · rw [decide_eq_true hj]
    refine ⟨.inr ⟨rfl, h.1.ins j x (by omega) (by omega)⟩, fun _ => ⟨by rw [tVals_ins (by omega), h.2.1], by rw [insT_size]; omega⟩⟩
  · rw [decide_eq_false hj]
    refine ⟨.inl ⟨rfl, ?_⟩, fun h => (nomatch h)⟩
    have : (decide (0 ≤ j) && decide (j ≤ tSize t)) = false := by rw [← hv]; simp; omega
    unfold qInsM
    rw [this]; rfl
theorem set_ed {room root : Int} {q : List Cell} {t : Tree} {l : List Int} {n : Int} (h : OneQ q root t l n) (hn : n < 1000000) (j x : Int) :
    EdOk room q t (decide (0 ≤ j ∧ j < l.length)) (qSetM room q x t root j) (setT x t j) ∧ (decide (0 ≤ j ∧ j < (l.length : Int)) = true → tVals (setT x t j) = l.set j.toNat x ∧ tSize (setT x t j) ≤ n + 1) := by
  have hs := h.2.2
  have hv := tVals_len t
  rw [h.2.1] at hv
  by_cases hj : 0 ≤ j ∧ j < l.length
  · rw [decide_eq_true hj]
    refine ⟨.inr ⟨rfl, h.1.set j x (by omega) (by omega)⟩, fun _ => ⟨by rw [tVals_set (by omega), h.2.1], by rw [(setT_size x t j).1]; omega⟩⟩
  · rw [decide_eq_false hj]
    refine ⟨.inl ⟨rfl, ?_⟩, fun h => (nomatch h)⟩
    have : (decide (0 ≤ j) && decide (j < tSize t)) = false := by rw [← hv]; simp; omega
    unfold qSetM
    rw [this]; rfl
theorem del_ed {room root : Int} {q : List Cell} {t : Tree} {l : List Int} {n : Int} (h : OneQ q root t l n) (hn : n < 1000000) (j : Int) :
    EdOk room q t (decide (0 ≤ j ∧ j < l.length)) (qDelM room q t root j) (sdelT t j) ∧ (decide (0 ≤ j ∧ j < (l.length : Int)) = true → tVals (sdelT t j) = l.eraseIdx j.toNat ∧ tSize (sdelT t j) ≤ n + 1) := by
  have hs := h.2.2
  have hv := tVals_len t
  rw [h.2.1] at hv
  by_cases hj : 0 ≤ j ∧ j < l.length
  · rw [decide_eq_true hj]
    refine ⟨.inr ⟨rfl, h.1.del j (by omega) (by omega)⟩, fun _ => ⟨by rw [tVals_del (by omega), h.2.1], by rw [sdelT_size (by omega) (by omega)]; omega⟩⟩
  · rw [decide_eq_false hj]
    refine ⟨.inl ⟨rfl, ?_⟩, fun h => (nomatch h)⟩
    have : (decide (0 ≤ j) && decide (j < tSize t)) = false := by rw [← hv]; simp; omega
    unfold qDelM
    rw [this]; rfl
def stepMv (q : List Cell) (root : Int) (t : Tree) (l : List Int) (rm : Int) : StepQ := if (qOfM rm [] l).2.1 = 2 then ⟨q, root, t, l, none⟩ else ⟨q, (qOfM rm [] l).2.2, allT (l.length + 1) (l.map kp), l, some (rm, (qOfM rm [] l).1)⟩
def stepQO (room : Int) (q : List Cell) (root : Int) (t : Tree) (l : List Int) (d : DeedQ) : StepQ :=
  if d.kind = 0 ∨ d.kind = 1 ∨ d.kind = 2 then stepEd (decide (0 ≤ d.i ∧ d.i ≤ l.length)) (qInsM room q d.val t root d.i) root t (insT d.val t d.i) l (insL l d.i d.val)
  else if d.kind = 3 then stepEd (decide (0 ≤ d.i ∧ d.i < l.length)) (qSetM room q d.val t root d.i) root t (setT d.val t d.i) l (l.set d.i.toNat d.val)
  else if d.kind = 4 then stepEd (decide (0 ≤ d.i ∧ d.i < l.length)) (qDelM room q t root d.i) root t (sdelT t d.i) l (l.eraseIdx d.i.toNat)
  else if d.kind = 5 ∨ d.kind = 6 then stepMv q root t l (refRoom d.val) else ⟨q, root, t, l, none⟩
theorem stepQO_ok {room : Int} {q : List Cell} {root : Int} {t : Tree} {l : List Int} {n : Int} (h : OneQ q root t l n) (hn : n < 1000000) (d : DeedQ) : StepQOk q (n + 1) (stepQO room q root t l d) := by
  have hs := h.2.2
  have hv := tVals_len t
  rw [h.2.1] at hv
  have same : StepQOk q (n + 1) ⟨q, root, t, l, none⟩ := ⟨⟨[], by simp⟩, h.1, h.2.1, by show tSize t ≤ n + 1; omega⟩
  have hh := h.1.high (by omega)
  unfold stepQO
  split
  · have := ins_ed (room := room) h hn d.i d.val
    exact (judge_gen h this.1 this.2 hh).2.2
  · split
    · have := set_ed (room := room) h hn d.i d.val
      exact (judge_gen h this.1 this.2 hh).2.2
    · split
      · have := del_ed (room := room) h hn d.i
        exact (judge_gen h this.1 this.2 hh).2.2
      · split
        · unfold stepMv
          split
          · exact same
          · rename_i h1
            rcases seq_of (room := refRoom d.val) (l := l) (by omega) with ⟨e, r, hM, hk, he⟩ | ⟨hM, _⟩
            · rw [hM]
              refine ⟨⟨[], by simp⟩, hk, tVals_of l, ?_⟩
              have h2 := tVals_len (allT (l.length + 1) (l.map kp))
              rw [tVals_of] at h2
              show tSize (allT _ _) ≤ _
              omega
            · rw [hM] at h1; exact absurd rfl h1
        · exact same
def stepKQ (mv : Option (Int × List Cell)) (b b2 : Nat) : HP := match mv with
  | none => HP.and (b2 = b) (HP.star [])
  | some (rm, q2) => arH (some b2) rm q2
structure OneS where
  b : Nat
  j : Nat
  root : Int
  t : Tree
  l : List Int
  deriving Inhabited
def rOneS (e : OneS) : List PV := [.is (arV (some e.b)), .int .i64 e.root, .is (arV (some e.b)), .sl rInt e.l]

theorem judge_c (b : Nat) (room : Int) (q : List Cell) (root : Int) (l0 : List Int) (sroot : Int) (ts : Tree) (hrs : Rep kz q ts sroot) (why : Int) (th : Bool) (l : List Int) (was : Int) (en : Bool) (hok : JOk th why en q.length was ts) : FnG Try.prog 41 1 [.agg [.is (arV (some b)), .int .i64 root, .is (arV (some b)), .sl rInt l0], .agg [.is (arV (some b)), .int .i64 sroot], .int .i64 why, .bool th, .sl rInt l, .int .i64 was, .bool en] [arH (some b) room q] (.tup [.agg [.is (arV (some b)), .int .i64 (jsel th why root sroot), .is (arV (some b)), .sl rInt (jsel th why l0 l)], .bool true]) (fun _ => [arH (some b) room q]) := by
  refine FnG.mk Try.func41 rfl Try.ntmps41 rfl (by kernel_rfl) ?_
  intro B F0 a w F hB hG hS
  refine wp_seq ?_
  refine region_seq hS (by kernel_rfl)
    (cF rfl (o_boxA 101 (.conv .t .agg) (by kernel_rfl)) r1 trivial
    (cF rfl (o_boxA 102 (.conv .t .agg) (by kernel_rfl)) r1 trivial
    (cF rfl (o_alloc (zs := [.pointer none, .int .i64 0, .pointer none, .slice none 0 0]) 103 (by kernel_rfl)) trivial trivial
    (cF rfl (o_assign .cb (by rfl)) trivial trivial
    Chain.nil))))
    (by kernel_rfl) (by rw [hB]; kernel_rfl) ?_
  clear hS; intro a w F hS
  replace hS := hS.sub
  obtain ⟨F, hS⟩ := hS.norm [(2, _), (3, _), (4, _), (5, _), (6, _), (7, _), (8, _), (14, _), (15, _)] [(0, _), (1, _), (101, _), (102, _), (103, _)] ⟨rfl, rfl, rfl, rfl, rfl, rfl, rfl, rfl, rfl, trivial⟩ r5
  try dsimp only [RS.sub, SF.sub, CF.sub, csub, Anc.sub, List.map, zCF, rInt] at hS
  generalize Act.tau a 7 = v7 at hS
  generalize Act.tau a 8 = v8 at hS
  generalize Act.tau a 14 = v14 at hS
  refine then_n ?_
  refine wp_seq ?_
  refine wp_seq ?_
  refine region_seq hS (by kernel_rfl)
    (cF rfl (o_move .t (by rfl)) r1 trivial
    (cF rfl (o_not .t) r1 trivial
    Chain.nil))
    (by kernel_rfl) (by rw [hB]; kernel_rfl) ?_
  clear hS; intro a w F hS
  obtain ⟨F, hS⟩ := hS.norm [(2, _), (4, _), (5, _), (6, _), (7, _), (8, _), (14, _), (15, _), (17, _)] [(0, _), (1, _), (101, _), (102, _), (103, _)] ⟨rfl, rfl, rfl, rfl, rfl, rfl, rfl, rfl, rfl, trivial⟩ r5
  try dsimp only [rInt] at hS
  refine then_n ?_
  refine cond_b hS rfl (fun hc0 => ?_) (fun hc0 => ?_)
  ·skip
   have hth : th = false := by simpa using hc0
   have hg1 : (jsel th why root sroot) = root := if_pos (.inl hth)
   have hg2 : (jsel th why l0 l) = l0 := if_pos (.inl hth)
   have hb1 := hok.a hth
   refine wp_seq ?_
   refine region_any (by kernel_rfl) hS (by kernel_rfl)
     (cF rfl (o_load (ag := true) (sz := 4) 101 .is (by kernel_rfl) (by kernel_rfl) (by kernel_rfl) (by rfl)) r1 r1
     (cF rfl (o_move .t (by rfl)) r1 trivial
     (cF rfl (o_eql .t (.ci (by kernel_rfl))) r1 trivial
     (cF rfl (o_move .t (by rfl)) r1 trivial
     (Chain.cons (Cert.cond rfl rfl (fun h => o_fieldAddr (off := 2) 101 .is (by kernel_rfl) (by rfl))) r2 r1
     (Chain.cons (Cert.cond rfl rfl (fun h => o_load (ag := false) (sz := 1) 101 (.w h .adr) (by kernel_rfl) (by kernel_rfl) (by kernel_rfl) (by rfl))) r2 r1
     (Chain.cons (Cert.condR rfl rfl (by rfl) (fun h => o_callG1 1 (aLen_c (some b) room q) Try.func37 rfl (by kernel_rfl) (Args.one (.w h)))) r2 r1
     (Chain.cons (Cert.cond rfl rfl (fun h => o_move .t (by rfl))) r2 trivial
     (Chain.cons (Cert.cond rfl rfl (fun h => o_eql (.w h) (.w h))) r3 trivial
     (cF rfl (o_and2 .t .t) r2 trivial
     (cF rfl (o_move .t (by rfl)) r1 trivial
     (Chain.cons (Cert.cond rfl rfl (fun h => o_load (ag := true) (sz := 2) 102 .is (by kernel_rfl) (by kernel_rfl) (by kernel_rfl) (by rfl))) r2 r1
     (Chain.cons (Cert.condR rfl rfl (by rfl) (fun h => o_callG1 1 (slen_c (some b) room q sroot ts hrs) Try.func14 rfl (by kernel_rfl) (Args.one (.pagg (.w h))))) r2 r1
     (Chain.cons (Cert.cond rfl rfl (fun h => o_eql (.w h) (.ci (by kernel_rfl)))) r2 trivial
     (cF rfl (o_and2 .t .t) r2 trivial
     (cF rfl (o_storeA (sz := 4) 103 .is .t (by kernel_rfl) (by kernel_rfl) (by kernel_rfl)) r2 r1
     (cF rfl (o_assign .t (by rfl)) r1 trivial
     Chain.nil)))))))))))))))))
     (by kernel_rfl) (by rw [hB]; kernel_rfl) ?_
   clear hS; intro a w F hS
   obtain ⟨F, hS⟩ := hS.norm [(2, _), (4, _), (5, _), (6, _), (7, _), (8, _), (14, _), (15, _)] [(0, _), (1, _), (101, _), (102, _), (103, _)] r8 r5
   try dsimp only [List.map, stCells, List.length_cons, List.length_nil, Nat.reduceAdd, List.drop_succ_cons, List.drop_zero, List.drop_nil, List.take_succ_cons, List.take_zero, List.take_nil, List.cons_append, List.nil_append, zCF, ldSF, rInt] at hS
   refine then_n ?_
   refine wp_ret ?_
   refine then_r ?_
   refine ret_G1 hG hS rfl (.cell (n := 103) (ag := true) (sz := 4) rfl .is rfl (by kernel_rfl) (by kernel_rfl) (by kernel_rfl) (.tmp rfl .nil)) (.two (.aggU rfl (by rw [hg1, hg2]; rfl)) (.bool (by simp [hb1]))) rfl
  ·skip
   have hth : th = true := by simpa using hc0
   refine wp_skip ?_
   refine then_n ?_
   refine wp_seq ?_
   refine wp_seq ?_
   refine region_seq hS (by kernel_rfl)
     (cF rfl (o_move .t (by rfl)) r1 trivial
     (cF rfl (o_eql .t (.ci (by kernel_rfl))) r1 trivial
     Chain.nil))
     (by kernel_rfl) (by rw [hB]; kernel_rfl) ?_
   clear hS; intro a w F hS
   obtain ⟨F, hS⟩ := hS.norm [(2, _), (4, _), (5, _), (6, _), (7, _), (8, _), (14, _), (15, _), (34, _)] [(0, _), (1, _), (101, _), (102, _), (103, _)] ⟨rfl, rfl, rfl, rfl, rfl, rfl, rfl, rfl, rfl, trivial⟩ r5
   try dsimp only [rInt] at hS
   refine then_n ?_
   refine cond_b hS rfl (fun hc1 => ?_) (fun hc1 => ?_)
   ·skip
    have hw : why = 2 := by simpa using hc1
    have hg1 : (jsel th why root sroot) = root := if_pos (.inr hw)
    have hg2 : (jsel th why l0 l) = l0 := if_pos (.inr hw)
    have hb1 := hok.b hth hw
    refine wp_seq ?_
    refine region_any (by kernel_rfl) hS (by kernel_rfl)
      (cF rfl (o_load (ag := true) (sz := 4) 101 .is (by kernel_rfl) (by kernel_rfl) (by kernel_rfl) (by rfl)) r1 r1
      (cF rfl (o_move .t (by rfl)) r1 trivial
      (cF rfl (o_not .t) r1 trivial
      (cF rfl (o_move .t (by rfl)) r1 trivial
      (Chain.cons (Cert.cond rfl rfl (fun h => o_fieldAddr (off := 2) 101 .is (by kernel_rfl) (by rfl))) r2 r1
      (Chain.cons (Cert.cond rfl rfl (fun h => o_load (ag := false) (sz := 1) 101 (.w h .adr) (by kernel_rfl) (by kernel_rfl) (by kernel_rfl) (by rfl))) r2 r1
      (Chain.cons (Cert.condR rfl rfl (by rfl) (fun h => o_callG1 1 (aLen_c (some b) room q) Try.func37 rfl (by kernel_rfl) (Args.one (.w h)))) r2 r1
      (Chain.cons (Cert.cond rfl rfl (fun h => o_move .t (by rfl))) r2 trivial
      (Chain.cons (Cert.cond rfl rfl (fun h => o_eql (.w h) (.w h))) r3 trivial
      (cF rfl (o_and2 .t .t) r2 trivial
      (cF rfl (o_move .t (by rfl)) r1 trivial
      (Chain.cons (Cert.cond rfl rfl (fun h => o_load (ag := true) (sz := 2) 102 .is (by kernel_rfl) (by kernel_rfl) (by kernel_rfl) (by rfl))) r2 r1
      (Chain.cons (Cert.condR rfl rfl (by rfl) (fun h => o_callG1 1 (slen_c (some b) room q sroot ts hrs) Try.func14 rfl (by kernel_rfl) (Args.one (.pagg (.w h))))) r2 r1
      (Chain.cons (Cert.cond rfl rfl (fun h => o_eql (.w h) (.ci (by kernel_rfl)))) r2 trivial
      (cF rfl (o_and2 .t .t) r2 trivial
      (cF rfl (o_storeA (sz := 4) 103 .is .t (by kernel_rfl) (by kernel_rfl) (by kernel_rfl)) r2 r1
      (cF rfl (o_assign .t (by rfl)) r1 trivial
      Chain.nil)))))))))))))))))
      (by kernel_rfl) (by rw [hB]; kernel_rfl) ?_
    clear hS; intro a w F hS
    obtain ⟨F, hS⟩ := hS.norm [(2, _), (4, _), (7, _), (8, _), (14, _), (15, _)] [(0, _), (1, _), (101, _), (102, _), (103, _)] r6 r5
    try dsimp only [List.map, stCells, List.length_cons, List.length_nil, Nat.reduceAdd, List.drop_succ_cons, List.drop_zero, List.drop_nil, List.take_succ_cons, List.take_zero, List.take_nil, List.cons_append, List.nil_append, zCF, ldSF, rInt] at hS
    refine then_n ?_
    refine wp_ret ?_
    refine then_r ?_
    refine ret_G1 hG hS rfl (.cell (n := 103) (ag := true) (sz := 4) rfl .is rfl (by kernel_rfl) (by kernel_rfl) (by kernel_rfl) (.tmp rfl .nil)) (.two (.aggU rfl (by rw [hg1, hg2]; rfl)) (.bool (by simp [hb1]))) rfl
   ·skip
    have hw : ¬ why = 2 := by simpa using hc1
    have hno : ¬ (th = false ∨ why = 2) := by rw [hth]; simp [hw]
    have hg1 : (jsel th why root sroot) = sroot := if_neg hno
    have hg2 : (jsel th why l0 l) = l := if_neg hno
    have hb1 := hok.c hth hw
    refine wp_skip ?_
    refine then_n ?_
    refine wp_seq ?_
    refine region_seq hS (by kernel_rfl)
      (cF rfl (o_load (ag := true) (sz := 2) 102 .is (by kernel_rfl) (by kernel_rfl) (by kernel_rfl) (by rfl)) r1 r1
      (cF rfl (o_fieldAddr (off := 2) 101 .is (by kernel_rfl) (by rfl)) r1 r1
      (cF rfl (o_load (ag := false) (sz := 1) 101 .adr (by kernel_rfl) (by kernel_rfl) (by kernel_rfl) (by rfl)) r1 r1
      (cF rfl (o_move .t (by rfl)) r1 trivial
      (cF rfl (o_build (r := [(0, .tmp 50), (1, .tmp 52), (2, .tmp 53)]) (zs := [.pointer none, .int .i64 0, .pointer none, .slice none 0 0]) (pl := [(0, 2), (2, 1), (3, 1)]) (by kernel_rfl) (by kernel_rfl) (.agg rfl .t (by kernel_rfl) (by kernel_rfl) (.one rfl .t one_is (by kernel_rfl) (.one rfl .t one_sl (by kernel_rfl) .nil))) (by rfl)) r3 trivial
      (cF rfl (o_move .t (by rfl)) r1 trivial
      (cF rfl (o_eql .t (.ci (by kernel_rfl))) r1 trivial
      (cF rfl (o_storeA (sz := 4) 103 .is .t (by kernel_rfl) (by kernel_rfl) (by kernel_rfl)) r2 r1
      (cF rfl (o_assign .t (by rfl)) r1 trivial
      Chain.nil)))))))))
      (by kernel_rfl) (by rw [hB]; kernel_rfl) ?_
    clear hS; intro a w F hS
    obtain ⟨F, hS⟩ := hS.norm [(14, _), (15, _)] [(0, _), (1, _), (103, _)] r2 r3
    try dsimp only [List.map, stCells, List.length_cons, List.length_nil, Nat.reduceAdd, List.drop_succ_cons, List.drop_zero, List.drop_nil, List.take_succ_cons, List.take_zero, List.take_nil, List.cons_append, List.nil_append, zCF, ldSF, rInt] at hS
    refine then_n ?_
    refine wp_ret ?_
    refine ret_G1 hG hS rfl (.cell (n := 103) (ag := true) (sz := 4) rfl .is rfl (by kernel_rfl) (by kernel_rfl) (by kernel_rfl) (.tmp rfl .nil)) (.two (.aggU rfl (by rw [hg1, hg2]; rfl)) (.bool (by simp [hb1]))) rfl

theorem step07_c (b : Nat) (room : Int) (q : List Cell) (root : Int) (t : Tree) (l : List Int) (d : DeedQ) (n : Int) (h1 : OneQ q root t l n) (hn : n ≤ 1000) (hqq : q.length ≤ 65536) : FnG Try.prog 11 2 [.agg [.is (arV (some b)), .int .i64 root, .is (arV (some b)), .sl rInt l], .agg (rDeedQ d)] [arH (some b) room q, .star []] (PV.self fun v => .tup [.agg [.is (hdT v), .int .i64 (stepQO room q root t l d).root, .is (hdT v), .sl rInt (stepQO room q root t l d).l], .bool true]) (fun v => [arH (some b) room (stepQO room q root t l d).q, HP.named (fun b => arV (some b)) (fun b2 => stepKQ (stepQO room q root t l d).mv b b2) (hdT v)]) := by
  refine FnG.mk Try.func11 rfl Try.ntmps11 rfl (by kernel_rfl) ?_
  intro B F0 a w F hB hG hS
  obtain ⟨hk, hl, hs⟩ := id h1
  have hsz := tVals_len t
  rw [hl] at hsz
  have hh := hk.high (by omega)
  obtain ⟨F, hS⟩ := hS.norm [(0, _), (1, _)] [(0, _), (1, _)] r2 r2
  refine wp_seq ?_
  refine region_seq hS (by kernel_rfl)
    (cF rfl (o_boxA 101 (.conv .t .agg) (by kernel_rfl)) r1 trivial
    (cF rfl (o_boxA 102 (.conv .t .agg) (by kernel_rfl)) r1 trivial
    (cF rfl (o_alloc (zs := [.pointer none, .int .i64 0, .pointer none, .slice none 0 0]) 103 (by kernel_rfl)) trivial trivial
    (cF rfl (o_assign .cb (by rfl)) trivial trivial
    Chain.nil))))
    (by kernel_rfl) (by rw [hB]; kernel_rfl) ?_
  clear hS; intro a w F hS
  replace hS := hS.sub
  obtain ⟨F, hS⟩ := hS.norm [(2, _), (3, _), (4, _), (5, _)] [(0, _), (1, _), (101, _), (102, _), (103, _)] r4 r5
  try dsimp only [RS.sub, SF.sub, CF.sub, csub, Anc.sub, List.map, zCF, rInt, rOneS, rDeedQ] at hS
  generalize Act.tau a 2 = v2 at hS
  generalize Act.tau a 3 = v3 at hS
  generalize Act.tau a 4 = v4 at hS
  refine then_n ?_
  refine wp_seq ?_
  refine region_seq hS (by kernel_rfl)
    (cF rfl (o_fieldAddr (off := 2) 101 .is (by kernel_rfl) (by rfl)) r1 r1
    (cF rfl (o_load (ag := false) (sz := 1) 101 .adr (by kernel_rfl) (by kernel_rfl) (by kernel_rfl) (by rfl)) r1 r1
    (cF rfl (o_callG1 1 (aLen_c (some b) room q) Try.func37 rfl (by kernel_rfl) (Args.one .t)) r1 r1
    (cF rfl (o_assign .t (by rfl)) r1 trivial
    Chain.nil))))
    (by kernel_rfl) (by rw [hB]; kernel_rfl) ?_
  clear hS; intro a w F hS
  obtain ⟨F, hS⟩ := hS.norm [(2, _), (3, _), (4, _), (5, _), (6, _)] [(0, _), (1, _), (101, _), (102, _), (103, _)] r5 r5
  try dsimp only [List.map, List.drop_succ_cons, List.drop_zero, List.drop_nil, List.take_succ_cons, List.take_zero, List.take_nil, ldSF, rInt, rOneS, rDeedQ] at hS
  refine then_n ?_
  refine wp_seq ?_
  refine region_any (by kernel_rfl) hS (by kernel_rfl)
    (cF rfl (o_fieldAddr (off := 2) 101 .is (by kernel_rfl) (by rfl)) r1 r1
    (cF rfl (o_load (ag := false) (sz := 1) 101 .adr (by kernel_rfl) (by kernel_rfl) (by kernel_rfl) (by rfl)) r1 r1
    (cF rfl (o_callG1 1 (aRoom_c b room q) Try.func38 rfl (by kernel_rfl) (Args.one .t)) r1 r1
    (cF rfl (o_fieldAddr (off := 0) 101 .is (by kernel_rfl) (by rfl)) r1 r1
    (cF rfl (o_load (ag := true) (sz := 2) 101 .adr (by kernel_rfl) (by kernel_rfl) (by kernel_rfl) (by rfl)) r1 r1
    (cF rfl (o_callG1 1 (shigh_c (some b) room q root t hk.rep) Try.func19 rfl (by kernel_rfl) (Args.one (.pagg .t))) r1 r1
    (cF rfl (o_add .t (.ci (by kernel_rfl))) r1 trivial
    (cF rfl (o_mul (.ci (by kernel_rfl)) .t) r1 trivial
    (cF rfl (o_geq .t .t) r2 trivial
    (cF rfl (o_assign .t (by rfl)) r1 trivial
    Chain.nil))))))))))
    (by kernel_rfl) (by rw [hB]; kernel_rfl) ?_
  clear hS; intro a w F hS
  obtain ⟨F, hS⟩ := hS.norm [(2, _), (3, _), (4, _), (5, _), (6, _), (7, _)] [(0, _), (1, _), (101, _), (102, _), (103, _)] r6 r5
  try dsimp only [List.map, List.drop_succ_cons, List.drop_zero, List.drop_nil, List.take_succ_cons, List.take_zero, List.take_nil, ldSF, rInt, rOneS, rDeedQ] at hS
  refine then_n ?_
  refine wp_seq ?_
  refine region_seq hS (by kernel_rfl)
    (cF rfl (o_fieldAddr (off := 3) 101 .is (by kernel_rfl) (by rfl)) r1 r1
    (cF rfl (o_load (ag := false) (sz := 1) 101 .adr (by kernel_rfl) (by kernel_rfl) (by kernel_rfl) (by rfl)) r1 r1
    (cF rfl (o_fieldAddr (off := 2) 102 .is (by kernel_rfl) (by rfl)) r1 r1
    (cF rfl (o_load (ag := false) (sz := 1) 102 .adr (by kernel_rfl) (by kernel_rfl) (by kernel_rfl) (by rfl)) r1 r1
    (cF rfl (o_callP (there07_c l d.i) Try.func39 rfl (by kernel_rfl) (Args.two .t .t)) r2 trivial
    (cF rfl (o_assign .t (by rfl)) r1 trivial
    Chain.nil))))))
    (by kernel_rfl) (by rw [hB]; kernel_rfl) ?_
  clear hS; intro a w F hS
  obtain ⟨F, hS⟩ := hS.norm [(2, _), (3, _), (4, _), (5, _), (6, _), (7, _), (8, _)] [(0, _), (1, _), (101, _), (102, _), (103, _)] r7 r5
  try dsimp only [List.map, List.drop_succ_cons, List.drop_zero, List.drop_nil, List.take_succ_cons, List.take_zero, List.take_nil, ldSF, rInt, rOneS, rDeedQ] at hS
  refine then_n ?_
  refine wp_seq ?_
  refine region_seq hS (by kernel_rfl)
    (cF rfl (o_assign (.c rfl) (by rfl)) trivial trivial
    Chain.nil)
    (by kernel_rfl) (by rw [hB]; kernel_rfl) ?_
  clear hS; intro a w F hS
  obtain ⟨F, hS⟩ := hS.norm [(2, _), (3, _), (4, _), (5, _), (6, _), (7, _), (8, _), (9, _)] [(0, _), (1, _), (101, _), (102, _), (103, _)] r8 r5
  try dsimp only [rInt, rOneS, rDeedQ] at hS
  refine then_n ?_
  refine wp_seq ?_
  refine wp_seq ?_
  refine region_seq hS (by kernel_rfl)
    (cF rfl (o_fieldAddr (off := 0) 102 .is (by kernel_rfl) (by rfl)) r1 r1
    (cF rfl (o_load (ag := false) (sz := 1) 102 .adr (by kernel_rfl) (by kernel_rfl) (by kernel_rfl) (by rfl)) r1 r1
    Chain.nil))
    (by kernel_rfl) (by rw [hB]; kernel_rfl) ?_
  clear hS; intro a w F hS
  obtain ⟨F, hS⟩ := hS.norm [(2, _), (3, _), (4, _), (5, _), (6, _), (7, _), (8, _), (9, _), (37, _)] [(0, _), (1, _), (101, _), (102, _), (103, _)] ⟨rfl, rfl, rfl, rfl, rfl, rfl, rfl, rfl, rfl, trivial⟩ r5
  try dsimp only [List.map, List.drop_succ_cons, List.drop_zero, List.drop_nil, List.take_succ_cons, List.take_zero, List.take_nil, ldSF, rInt, rOneS, rDeedQ] at hS
  refine then_n ?_
  refine wp_block ?_
  refine wp_seq ?_
  refine wp_seq ?_
  refine region_seq hS (by kernel_rfl)
    (cF rfl (o_eql .t (.ci (by kernel_rfl))) r1 trivial
    (cF rfl (o_assign .t (by rfl)) r1 trivial
    Chain.nil))
    (by kernel_rfl) (by rw [hB]; kernel_rfl) ?_
  clear hS; intro a w F hS
  obtain ⟨F, hS⟩ := hS.norm [(2, _), (3, _), (4, _), (5, _), (6, _), (7, _), (8, _), (9, _), (37, _), (38, _)] [(0, _), (1, _), (101, _), (102, _), (103, _)] ⟨rfl, rfl, rfl, rfl, rfl, rfl, rfl, rfl, rfl, rfl, trivial⟩ r5
  try dsimp only [rInt, rOneS, rDeedQ] at hS
  refine then_n ?_
  refine cond_b hS rfl (fun hc0 => ?_) (fun hc0 => ?_)
  ·skip
   have hkd : d.kind = 0 ∨ d.kind = 1 ∨ d.kind = 2 := by simp at hc0; omega
   have hokf := True.intro
   have he := ins_ed (room := room) h1 (by omega) d.i d.val
   have hj := judge_gen (L' := insL l d.i d.val) h1 he.1 he.2 hh
   have hjl := True.intro
   have hg : (stepQO room q root t l d) = stepEd (decide (0 ≤ d.i ∧ d.i ≤ (l.length : Int))) (qInsM room q d.val t root d.i) root t (insT d.val t d.i) l (insL l d.i d.val) := if_pos hkd
   refine wp_skip ?_
   refine then_n ?_
   refine cond_b hS rfl (fun hc1 => ?_) (fun hc1 => ?_)
   ·skip
    have hkd : d.kind = 0 ∨ d.kind = 1 ∨ d.kind = 2 := by simp at hc1; omega
    have hokf := True.intro
    have he := ins_ed (room := room) h1 (by omega) d.i d.val
    have hj := judge_gen (L' := insL l d.i d.val) h1 he.1 he.2 hh
    have hjl := True.intro
    have hg : (stepQO room q root t l d) = stepEd (decide (0 ≤ d.i ∧ d.i ≤ (l.length : Int))) (qInsM room q d.val t root d.i) root t (insT d.val t d.i) l (insL l d.i d.val) := if_pos hkd
    refine wp_seq ?_
    refine region_seq hS (by kernel_rfl)
      (cF rfl (o_fieldAddr (off := 3) 101 .is (by kernel_rfl) (by rfl)) r1 r1
      (cF rfl (o_load (ag := false) (sz := 1) 101 .adr (by kernel_rfl) (by kernel_rfl) (by kernel_rfl) (by rfl)) r1 r1
      (cF rfl (o_fieldAddr (off := 2) 102 .is (by kernel_rfl) (by rfl)) r1 r1
      (cF rfl (o_load (ag := false) (sz := 1) 102 .adr (by kernel_rfl) (by kernel_rfl) (by kernel_rfl) (by rfl)) r1 r1
      (cF rfl (o_fieldAddr (off := 3) 102 .is (by kernel_rfl) (by rfl)) r1 r1
      (cF rfl (o_load (ag := false) (sz := 1) 102 .adr (by kernel_rfl) (by kernel_rfl) (by kernel_rfl) (by rfl)) r1 r1
      (cF rfl (o_callP (ins07_c l d.i d.val (by omega)) Try.func40 rfl (by kernel_rfl) (Args.three .t .t .t)) r3 trivial
      (cF rfl (o_move .t (by rfl)) r1 trivial
      (cF rfl (o_extract .t rfl) r1 trivial
      (cF rfl (o_extract .t rfl) r1 trivial
      (cF rfl (o_assign .t (by rfl)) r1 trivial
      (cF rfl (o_assign .t (by rfl)) r1 trivial
      Chain.nil))))))))))))
      (by kernel_rfl) (by rw [hB]; kernel_rfl) ?_
    clear hS; intro a w F hS
    obtain ⟨F, hS⟩ := hS.norm [(2, _), (3, _), (4, _), (5, _), (6, _), (7, _), (8, _), (9, _)] [(0, _), (1, _), (101, _), (102, _), (103, _)] r8 r5
    try dsimp only [List.map, List.drop_succ_cons, List.drop_zero, List.drop_nil, List.take_succ_cons, List.take_zero, List.take_nil, ldSF, rInt, rOneS, rDeedQ] at hS
    refine then_n ?_
    refine wp_seq ?_
    refine region_seq hS (by kernel_rfl)
      (cF rfl (o_fieldAddr (off := 0) 101 .is (by kernel_rfl) (by rfl)) r1 r1
      (cF rfl (o_load (ag := true) (sz := 2) 101 .adr (by kernel_rfl) (by kernel_rfl) (by kernel_rfl) (by rfl)) r1 r1
      (cF rfl (o_fieldAddr (off := 2) 102 .is (by kernel_rfl) (by rfl)) r1 r1
      (cF rfl (o_load (ag := false) (sz := 1) 102 .adr (by kernel_rfl) (by kernel_rfl) (by kernel_rfl) (by rfl)) r1 r1
      (cF rfl (o_fieldAddr (off := 3) 102 .is (by kernel_rfl) (by rfl)) r1 r1
      (cF rfl (o_load (ag := false) (sz := 1) 102 .adr (by kernel_rfl) (by kernel_rfl) (by kernel_rfl) (by rfl)) r1 r1
      (cF rfl (o_callG1 1 (sINS_c (some b) room q root t hk.rep (by omega) d.i d.val) Try.func15 rfl (by kernel_rfl) (Args.three (.pagg .t) .t .t)) r3 r1
      (cF rfl (o_move .t (by rfl)) r1 trivial
      (cF rfl (o_extract .t rfl) r1 trivial
      (cF rfl (o_extract .t rfl) r1 trivial
      (cF rfl (o_alloc (zs := [.pointer none, .int .i64 0]) 104 (by kernel_rfl)) trivial trivial
      (cF rfl (o_storeA (sz := 2) 104 .same (.conv .t .agg) (by kernel_rfl) (by kernel_rfl) (by kernel_rfl)) r2 r1
      (cF rfl (o_assign .t (by rfl)) r1 trivial
      Chain.nil)))))))))))))
      (by kernel_rfl) (by rw [hB]; kernel_rfl) ?_
    clear hS; intro a w F hS
    replace hS := hS.sub
    obtain ⟨F, hS⟩ := hS.norm [(2, _), (4, _), (5, _), (6, _), (7, _), (8, _), (9, _), (10, _), (11, _)] [(0, _), (1, _), (101, _), (103, _), (104, _)] ⟨rfl, rfl, rfl, rfl, rfl, rfl, rfl, rfl, rfl, trivial⟩ r5
    try dsimp only [RS.sub, SF.sub, CF.sub, csub, Anc.sub, List.map, stCells, List.length_cons, List.length_nil, Nat.reduceAdd, List.drop_succ_cons, List.drop_zero, List.drop_nil, List.take_succ_cons, List.take_zero, List.take_nil, List.cons_append, List.nil_append, zCF, ldSF, rInt, rOneS, rDeedQ] at hS
    generalize Act.tau a 10 = v10 at hS
    refine then_n ?_
    refine wp_seq ?_
    refine region_seq hS (by kernel_rfl)
      (cF rfl (o_load (ag := true) (sz := 4) 101 .is (by kernel_rfl) (by kernel_rfl) (by kernel_rfl) (by rfl)) r1 r1
      (cF rfl (o_load (ag := true) (sz := 2) 104 .is (by kernel_rfl) (by kernel_rfl) (by kernel_rfl) (by rfl)) r1 r1
      (cF rfl (o_move .t (by rfl)) r1 trivial
      (cF rfl (o_move .t (by rfl)) r1 trivial
      (cF rfl (o_move .t (by rfl)) r1 trivial
      (cF rfl (o_move .t (by rfl)) r1 trivial
      (cF rfl (o_move .t (by rfl)) r1 trivial
      (cF rfl (o_callG1 1 (judge_c b room (qInsM room q d.val t root d.i).1 root l (qInsM room q d.val t root d.i).2.2 (jsel (decide (0 ≤ d.i ∧ d.i ≤ (l.length : Int))) (qInsM room q d.val t root d.i).2.1 .nil (insT d.val t d.i)) hj.1 (qInsM room q d.val t root d.i).2.1 (decide (0 ≤ d.i ∧ d.i ≤ (l.length : Int))) (insL l d.i d.val) q.length (decide (IntKind.wrap .i64 (3 * IntKind.wrap .i64 (tHigh t + 1)) ≤ room - q.length)) hj.2.1) Try.func41 rfl (by kernel_rfl) (Args.seven (.pagg .t) (.pagg .t) .t .t .t .t .t)) r7 r1
      (cF rfl (o_extract .t rfl) r1 trivial
      (cF rfl (o_extract .t rfl) r1 trivial
      (cF rfl (o_storeA (sz := 4) 103 .is (.conv .t .agg) (by kernel_rfl) (by kernel_rfl) (by kernel_rfl)) r2 r1
      (cF rfl (o_assign .t (by rfl)) r1 trivial
      Chain.nil))))))))))))
      (by kernel_rfl) (by rw [hB]; kernel_rfl) ?_
    clear hS; intro a w F hS
    obtain ⟨F, hS⟩ := hS.norm [(2, _), (4, _), (5, _)] [(0, _), (1, _), (101, _), (103, _)] r3 r4
    try dsimp only [List.map, stCells, List.length_cons, List.length_nil, Nat.reduceAdd, List.drop_succ_cons, List.drop_zero, List.drop_nil, List.take_succ_cons, List.take_zero, List.take_nil, List.cons_append, List.nil_append, zCF, ldSF, rInt, rOneS, rDeedQ] at hS
    refine then_n ?_
    refine wp_ret ?_
    refine block_r ?_
    refine then_r ?_
    have hS := hS.turn 1 rfl (r' := RS.hp (arH (some b) room (stepQO room q root t l d).q)) (fun _ _ _ _ h => by rw [hg]; exact h)
    have hS := hS.fresh 2 rfl
    have hS := hS.turn 2 rfl (r' := RS.hp (stepKQ (stepQO room q root t l d).mv b b)) (fun _ _ _ _ h => by rw [hg]; exact ⟨rfl, h⟩)
    refine ret_G2h (g := fun b => arV (some b)) (b0 := b) (l := fun u => [.int .i64 (stepQO room q root t l d).root, .is u, .sl rInt (stepQO room q root t l d).l]) (k2 := fun b2 => stepKQ (stepQO room q root t l d).mv b b2) hG hS rfl (.cell (n := 103) (ag := true) (sz := 4) rfl .is rfl (by kernel_rfl) (by kernel_rfl) (by kernel_rfl) (.tmp rfl .nil)) (.two (.aggU rfl (by rw [hg]; first | rfl | (simp only [hjl]; rfl))) (.bool (by first | rfl | (simp [hokf, tSize]; done) | (simp [hokf, tSize]; omega)))) rfl rfl
   ·exact Bool.noConfusion (hc0.symm.trans hc1)
  ·skip
   have hkf := of_decide_eq_false hc0
   refine wp_seq ?_
   refine region_seq hS (by kernel_rfl)
     (cF rfl (o_eql .t (.ci (by kernel_rfl))) r1 trivial
     (cF rfl (o_assign .t (by rfl)) r1 trivial
     Chain.nil))
     (by kernel_rfl) (by rw [hB]; kernel_rfl) ?_
   clear hS; intro a w F hS
   obtain ⟨F, hS⟩ := hS.norm [(2, _), (3, _), (4, _), (5, _), (6, _), (7, _), (8, _), (9, _), (37, _), (38, _)] [(0, _), (1, _), (101, _), (102, _), (103, _)] ⟨rfl, rfl, rfl, rfl, rfl, rfl, rfl, rfl, rfl, rfl, trivial⟩ r5
   try dsimp only [rInt, rOneS, rDeedQ] at hS
   refine then_n ?_
   refine cond_b hS rfl (fun hc2 => ?_) (fun hc2 => ?_)
   ·skip
    have hkd : d.kind = 0 ∨ d.kind = 1 ∨ d.kind = 2 := by simp at hc2; omega
    have hokf := True.intro
    have he := ins_ed (room := room) h1 (by omega) d.i d.val
    have hj := judge_gen (L' := insL l d.i d.val) h1 he.1 he.2 hh
    have hjl := True.intro
    have hg : (stepQO room q root t l d) = stepEd (decide (0 ≤ d.i ∧ d.i ≤ (l.length : Int))) (qInsM room q d.val t root d.i) root t (insT d.val t d.i) l (insL l d.i d.val) := if_pos hkd
    refine wp_skip ?_
    refine then_n ?_
    refine cond_b hS rfl (fun hc3 => ?_) (fun hc3 => ?_)
    ·skip
     have hkd : d.kind = 0 ∨ d.kind = 1 ∨ d.kind = 2 := by simp at hc3; omega
     have hokf := True.intro
     have he := ins_ed (room := room) h1 (by omega) d.i d.val
     have hj := judge_gen (L' := insL l d.i d.val) h1 he.1 he.2 hh
     have hjl := True.intro
     have hg : (stepQO room q root t l d) = stepEd (decide (0 ≤ d.i ∧ d.i ≤ (l.length : Int))) (qInsM room q d.val t root d.i) root t (insT d.val t d.i) l (insL l d.i d.val) := if_pos hkd
     refine wp_seq ?_
     refine region_seq hS (by kernel_rfl)
       (cF rfl (o_fieldAddr (off := 3) 101 .is (by kernel_rfl) (by rfl)) r1 r1
       (cF rfl (o_load (ag := false) (sz := 1) 101 .adr (by kernel_rfl) (by kernel_rfl) (by kernel_rfl) (by rfl)) r1 r1
       (cF rfl (o_fieldAddr (off := 2) 102 .is (by kernel_rfl) (by rfl)) r1 r1
       (cF rfl (o_load (ag := false) (sz := 1) 102 .adr (by kernel_rfl) (by kernel_rfl) (by kernel_rfl) (by rfl)) r1 r1
       (cF rfl (o_fieldAddr (off := 3) 102 .is (by kernel_rfl) (by rfl)) r1 r1
       (cF rfl (o_load (ag := false) (sz := 1) 102 .adr (by kernel_rfl) (by kernel_rfl) (by kernel_rfl) (by rfl)) r1 r1
       (cF rfl (o_callP (ins07_c l d.i d.val (by omega)) Try.func40 rfl (by kernel_rfl) (Args.three .t .t .t)) r3 trivial
       (cF rfl (o_move .t (by rfl)) r1 trivial
       (cF rfl (o_extract .t rfl) r1 trivial
       (cF rfl (o_extract .t rfl) r1 trivial
       (cF rfl (o_assign .t (by rfl)) r1 trivial
       (cF rfl (o_assign .t (by rfl)) r1 trivial
       Chain.nil))))))))))))
       (by kernel_rfl) (by rw [hB]; kernel_rfl) ?_
     clear hS; intro a w F hS
     obtain ⟨F, hS⟩ := hS.norm [(2, _), (3, _), (4, _), (5, _), (6, _), (7, _), (8, _), (9, _)] [(0, _), (1, _), (101, _), (102, _), (103, _)] r8 r5
     try dsimp only [List.map, List.drop_succ_cons, List.drop_zero, List.drop_nil, List.take_succ_cons, List.take_zero, List.take_nil, ldSF, rInt, rOneS, rDeedQ] at hS
     refine then_n ?_
     refine wp_seq ?_
     refine region_seq hS (by kernel_rfl)
       (cF rfl (o_fieldAddr (off := 0) 101 .is (by kernel_rfl) (by rfl)) r1 r1
       (cF rfl (o_load (ag := true) (sz := 2) 101 .adr (by kernel_rfl) (by kernel_rfl) (by kernel_rfl) (by rfl)) r1 r1
       (cF rfl (o_fieldAddr (off := 2) 102 .is (by kernel_rfl) (by rfl)) r1 r1
       (cF rfl (o_load (ag := false) (sz := 1) 102 .adr (by kernel_rfl) (by kernel_rfl) (by kernel_rfl) (by rfl)) r1 r1
       (cF rfl (o_fieldAddr (off := 3) 102 .is (by kernel_rfl) (by rfl)) r1 r1
       (cF rfl (o_load (ag := false) (sz := 1) 102 .adr (by kernel_rfl) (by kernel_rfl) (by kernel_rfl) (by rfl)) r1 r1
       (cF rfl (o_callG1 1 (sINS_c (some b) room q root t hk.rep (by omega) d.i d.val) Try.func15 rfl (by kernel_rfl) (Args.three (.pagg .t) .t .t)) r3 r1
       (cF rfl (o_move .t (by rfl)) r1 trivial
       (cF rfl (o_extract .t rfl) r1 trivial
       (cF rfl (o_extract .t rfl) r1 trivial
       (cF rfl (o_alloc (zs := [.pointer none, .int .i64 0]) 105 (by kernel_rfl)) trivial trivial
       (cF rfl (o_storeA (sz := 2) 105 .same (.conv .t .agg) (by kernel_rfl) (by kernel_rfl) (by kernel_rfl)) r2 r1
       (cF rfl (o_assign .t (by rfl)) r1 trivial
       Chain.nil)))))))))))))
       (by kernel_rfl) (by rw [hB]; kernel_rfl) ?_
     clear hS; intro a w F hS
     replace hS := hS.sub
     obtain ⟨F, hS⟩ := hS.norm [(2, _), (4, _), (5, _), (6, _), (7, _), (8, _), (9, _), (10, _), (11, _)] [(0, _), (1, _), (101, _), (103, _), (105, _)] ⟨rfl, rfl, rfl, rfl, rfl, rfl, rfl, rfl, rfl, trivial⟩ r5
     try dsimp only [RS.sub, SF.sub, CF.sub, csub, Anc.sub, List.map, stCells, List.length_cons, List.length_nil, Nat.reduceAdd, List.drop_succ_cons, List.drop_zero, List.drop_nil, List.take_succ_cons, List.take_zero, List.take_nil, List.cons_append, List.nil_append, zCF, ldSF, rInt, rOneS, rDeedQ] at hS
     generalize Act.tau a 10 = v10 at hS
     refine then_n ?_
     refine wp_seq ?_
     refine region_seq hS (by kernel_rfl)
       (cF rfl (o_load (ag := true) (sz := 4) 101 .is (by kernel_rfl) (by kernel_rfl) (by kernel_rfl) (by rfl)) r1 r1
       (cF rfl (o_load (ag := true) (sz := 2) 105 .is (by kernel_rfl) (by kernel_rfl) (by kernel_rfl) (by rfl)) r1 r1
       (cF rfl (o_move .t (by rfl)) r1 trivial
       (cF rfl (o_move .t (by rfl)) r1 trivial
       (cF rfl (o_move .t (by rfl)) r1 trivial
       (cF rfl (o_move .t (by rfl)) r1 trivial
       (cF rfl (o_move .t (by rfl)) r1 trivial
       (cF rfl (o_callG1 1 (judge_c b room (qInsM room q d.val t root d.i).1 root l (qInsM room q d.val t root d.i).2.2 (jsel (decide (0 ≤ d.i ∧ d.i ≤ (l.length : Int))) (qInsM room q d.val t root d.i).2.1 .nil (insT d.val t d.i)) hj.1 (qInsM room q d.val t root d.i).2.1 (decide (0 ≤ d.i ∧ d.i ≤ (l.length : Int))) (insL l d.i d.val) q.length (decide (IntKind.wrap .i64 (3 * IntKind.wrap .i64 (tHigh t + 1)) ≤ room - q.length)) hj.2.1) Try.func41 rfl (by kernel_rfl) (Args.seven (.pagg .t) (.pagg .t) .t .t .t .t .t)) r7 r1
       (cF rfl (o_extract .t rfl) r1 trivial
       (cF rfl (o_extract .t rfl) r1 trivial
       (cF rfl (o_storeA (sz := 4) 103 .is (.conv .t .agg) (by kernel_rfl) (by kernel_rfl) (by kernel_rfl)) r2 r1
       (cF rfl (o_assign .t (by rfl)) r1 trivial
       Chain.nil))))))))))))
       (by kernel_rfl) (by rw [hB]; kernel_rfl) ?_
     clear hS; intro a w F hS
     obtain ⟨F, hS⟩ := hS.norm [(2, _), (4, _), (5, _)] [(0, _), (1, _), (101, _), (103, _)] r3 r4
     try dsimp only [List.map, stCells, List.length_cons, List.length_nil, Nat.reduceAdd, List.drop_succ_cons, List.drop_zero, List.drop_nil, List.take_succ_cons, List.take_zero, List.take_nil, List.cons_append, List.nil_append, zCF, ldSF, rInt, rOneS, rDeedQ] at hS
     refine then_n ?_
     refine wp_ret ?_
     refine block_r ?_
     refine then_r ?_
     have hS := hS.turn 1 rfl (r' := RS.hp (arH (some b) room (stepQO room q root t l d).q)) (fun _ _ _ _ h => by rw [hg]; exact h)
     have hS := hS.fresh 2 rfl
     have hS := hS.turn 2 rfl (r' := RS.hp (stepKQ (stepQO room q root t l d).mv b b)) (fun _ _ _ _ h => by rw [hg]; exact ⟨rfl, h⟩)
     refine ret_G2h (g := fun b => arV (some b)) (b0 := b) (l := fun u => [.int .i64 (stepQO room q root t l d).root, .is u, .sl rInt (stepQO room q root t l d).l]) (k2 := fun b2 => stepKQ (stepQO room q root t l d).mv b b2) hG hS rfl (.cell (n := 103) (ag := true) (sz := 4) rfl .is rfl (by kernel_rfl) (by kernel_rfl) (by kernel_rfl) (.tmp rfl .nil)) (.two (.aggU rfl (by rw [hg]; first | rfl | (simp only [hjl]; rfl))) (.bool (by first | rfl | (simp [hokf, tSize]; done) | (simp [hokf, tSize]; omega)))) rfl rfl
    ·exact Bool.noConfusion (hc2.symm.trans hc3)
   ·skip
    have hkf := of_decide_eq_false hc2
    refine region_seq hS (by kernel_rfl)
      (cF rfl (o_eql .t (.ci (by kernel_rfl))) r1 trivial
      (cF rfl (o_assign .t (by rfl)) r1 trivial
      Chain.nil))
      (by kernel_rfl) (by rw [hB]; kernel_rfl) ?_
    clear hS; intro a w F hS
    obtain ⟨F, hS⟩ := hS.norm [(2, _), (3, _), (4, _), (5, _), (6, _), (7, _), (8, _), (9, _), (37, _), (38, _)] [(0, _), (1, _), (101, _), (102, _), (103, _)] ⟨rfl, rfl, rfl, rfl, rfl, rfl, rfl, rfl, rfl, rfl, trivial⟩ r5
    try dsimp only [rInt, rOneS, rDeedQ] at hS
    refine then_n ?_
    refine cond_b hS rfl (fun hc4 => ?_) (fun hc4 => ?_)
    ·skip
     have hkd : d.kind = 0 ∨ d.kind = 1 ∨ d.kind = 2 := by simp at hc4; omega
     have hokf := True.intro
     have he := ins_ed (room := room) h1 (by omega) d.i d.val
     have hj := judge_gen (L' := insL l d.i d.val) h1 he.1 he.2 hh
     have hjl := True.intro
     have hg : (stepQO room q root t l d) = stepEd (decide (0 ≤ d.i ∧ d.i ≤ (l.length : Int))) (qInsM room q d.val t root d.i) root t (insT d.val t d.i) l (insL l d.i d.val) := if_pos hkd
     refine wp_seq ?_
     refine region_seq hS (by kernel_rfl)
       (cF rfl (o_fieldAddr (off := 3) 101 .is (by kernel_rfl) (by rfl)) r1 r1
       (cF rfl (o_load (ag := false) (sz := 1) 101 .adr (by kernel_rfl) (by kernel_rfl) (by kernel_rfl) (by rfl)) r1 r1
       (cF rfl (o_fieldAddr (off := 2) 102 .is (by kernel_rfl) (by rfl)) r1 r1
       (cF rfl (o_load (ag := false) (sz := 1) 102 .adr (by kernel_rfl) (by kernel_rfl) (by kernel_rfl) (by rfl)) r1 r1
       (cF rfl (o_fieldAddr (off := 3) 102 .is (by kernel_rfl) (by rfl)) r1 r1
       (cF rfl (o_load (ag := false) (sz := 1) 102 .adr (by kernel_rfl) (by kernel_rfl) (by kernel_rfl) (by rfl)) r1 r1
       (cF rfl (o_callP (ins07_c l d.i d.val (by omega)) Try.func40 rfl (by kernel_rfl) (Args.three .t .t .t)) r3 trivial
       (cF rfl (o_move .t (by rfl)) r1 trivial
       (cF rfl (o_extract .t rfl) r1 trivial
       (cF rfl (o_extract .t rfl) r1 trivial
       (cF rfl (o_assign .t (by rfl)) r1 trivial
       (cF rfl (o_assign .t (by rfl)) r1 trivial
       Chain.nil))))))))))))
       (by kernel_rfl) (by rw [hB]; kernel_rfl) ?_
     clear hS; intro a w F hS
     obtain ⟨F, hS⟩ := hS.norm [(2, _), (3, _), (4, _), (5, _), (6, _), (7, _), (8, _), (9, _)] [(0, _), (1, _), (101, _), (102, _), (103, _)] r8 r5
     try dsimp only [List.map, List.drop_succ_cons, List.drop_zero, List.drop_nil, List.take_succ_cons, List.take_zero, List.take_nil, ldSF, rInt, rOneS, rDeedQ] at hS
     refine then_n ?_
     refine wp_seq ?_
     refine region_seq hS (by kernel_rfl)
       (cF rfl (o_fieldAddr (off := 0) 101 .is (by kernel_rfl) (by rfl)) r1 r1
       (cF rfl (o_load (ag := true) (sz := 2) 101 .adr (by kernel_rfl) (by kernel_rfl) (by kernel_rfl) (by rfl)) r1 r1
       (cF rfl (o_fieldAddr (off := 2) 102 .is (by kernel_rfl) (by rfl)) r1 r1
       (cF rfl (o_load (ag := false) (sz := 1) 102 .adr (by kernel_rfl) (by kernel_rfl) (by kernel_rfl) (by rfl)) r1 r1
       (cF rfl (o_fieldAddr (off := 3) 102 .is (by kernel_rfl) (by rfl)) r1 r1
       (cF rfl (o_load (ag := false) (sz := 1) 102 .adr (by kernel_rfl) (by kernel_rfl) (by kernel_rfl) (by rfl)) r1 r1
       (cF rfl (o_callG1 1 (sINS_c (some b) room q root t hk.rep (by omega) d.i d.val) Try.func15 rfl (by kernel_rfl) (Args.three (.pagg .t) .t .t)) r3 r1
       (cF rfl (o_move .t (by rfl)) r1 trivial
       (cF rfl (o_extract .t rfl) r1 trivial
       (cF rfl (o_extract .t rfl) r1 trivial
       (cF rfl (o_alloc (zs := [.pointer none, .int .i64 0]) 106 (by kernel_rfl)) trivial trivial
       (cF rfl (o_storeA (sz := 2) 106 .same (.conv .t .agg) (by kernel_rfl) (by kernel_rfl) (by kernel_rfl)) r2 r1
       (cF rfl (o_assign .t (by rfl)) r1 trivial
       Chain.nil)))))))))))))
       (by kernel_rfl) (by rw [hB]; kernel_rfl) ?_
     clear hS; intro a w F hS
     replace hS := hS.sub
     obtain ⟨F, hS⟩ := hS.norm [(2, _), (4, _), (5, _), (6, _), (7, _), (8, _), (9, _), (10, _), (11, _)] [(0, _), (1, _), (101, _), (103, _), (106, _)] ⟨rfl, rfl, rfl, rfl, rfl, rfl, rfl, rfl, rfl, trivial⟩ r5
     try dsimp only [RS.sub, SF.sub, CF.sub, csub, Anc.sub, List.map, stCells, List.length_cons, List.length_nil, Nat.reduceAdd, List.drop_succ_cons, List.drop_zero, List.drop_nil, List.take_succ_cons, List.take_zero, List.take_nil, List.cons_append, List.nil_append, zCF, ldSF, rInt, rOneS, rDeedQ] at hS
     generalize Act.tau a 10 = v10 at hS
     refine then_n ?_
     refine wp_seq ?_
     refine region_seq hS (by kernel_rfl)
       (cF rfl (o_load (ag := true) (sz := 4) 101 .is (by kernel_rfl) (by kernel_rfl) (by kernel_rfl) (by rfl)) r1 r1
       (cF rfl (o_load (ag := true) (sz := 2) 106 .is (by kernel_rfl) (by kernel_rfl) (by kernel_rfl) (by rfl)) r1 r1
       (cF rfl (o_move .t (by rfl)) r1 trivial
       (cF rfl (o_move .t (by rfl)) r1 trivial
       (cF rfl (o_move .t (by rfl)) r1 trivial
       (cF rfl (o_move .t (by rfl)) r1 trivial
       (cF rfl (o_move .t (by rfl)) r1 trivial
       (cF rfl (o_callG1 1 (judge_c b room (qInsM room q d.val t root d.i).1 root l (qInsM room q d.val t root d.i).2.2 (jsel (decide (0 ≤ d.i ∧ d.i ≤ (l.length : Int))) (qInsM room q d.val t root d.i).2.1 .nil (insT d.val t d.i)) hj.1 (qInsM room q d.val t root d.i).2.1 (decide (0 ≤ d.i ∧ d.i ≤ (l.length : Int))) (insL l d.i d.val) q.length (decide (IntKind.wrap .i64 (3 * IntKind.wrap .i64 (tHigh t + 1)) ≤ room - q.length)) hj.2.1) Try.func41 rfl (by kernel_rfl) (Args.seven (.pagg .t) (.pagg .t) .t .t .t .t .t)) r7 r1
       (cF rfl (o_extract .t rfl) r1 trivial
       (cF rfl (o_extract .t rfl) r1 trivial
       (cF rfl (o_storeA (sz := 4) 103 .is (.conv .t .agg) (by kernel_rfl) (by kernel_rfl) (by kernel_rfl)) r2 r1
       (cF rfl (o_assign .t (by rfl)) r1 trivial
       Chain.nil))))))))))))
       (by kernel_rfl) (by rw [hB]; kernel_rfl) ?_
     clear hS; intro a w F hS
     obtain ⟨F, hS⟩ := hS.norm [(2, _), (4, _), (5, _)] [(0, _), (1, _), (101, _), (103, _)] r3 r4
     try dsimp only [List.map, stCells, List.length_cons, List.length_nil, Nat.reduceAdd, List.drop_succ_cons, List.drop_zero, List.drop_nil, List.take_succ_cons, List.take_zero, List.take_nil, List.cons_append, List.nil_append, zCF, ldSF, rInt, rOneS, rDeedQ] at hS
     refine then_n ?_
     refine wp_ret ?_
     refine block_r ?_
     refine then_r ?_
     have hS := hS.turn 1 rfl (r' := RS.hp (arH (some b) room (stepQO room q root t l d).q)) (fun _ _ _ _ h => by rw [hg]; exact h)
     have hS := hS.fresh 2 rfl
     have hS := hS.turn 2 rfl (r' := RS.hp (stepKQ (stepQO room q root t l d).mv b b)) (fun _ _ _ _ h => by rw [hg]; exact ⟨rfl, h⟩)
     refine ret_G2h (g := fun b => arV (some b)) (b0 := b) (l := fun u => [.int .i64 (stepQO room q root t l d).root, .is u, .sl rInt (stepQO room q root t l d).l]) (k2 := fun b2 => stepKQ (stepQO room q root t l d).mv b b2) hG hS rfl (.cell (n := 103) (ag := true) (sz := 4) rfl .is rfl (by kernel_rfl) (by kernel_rfl) (by kernel_rfl) (.tmp rfl .nil)) (.two (.aggU rfl (by rw [hg]; first | rfl | (simp only [hjl]; rfl))) (.bool (by first | rfl | (simp [hokf, tSize]; done) | (simp [hokf, tSize]; omega)))) rfl rfl
    ·skip
     have hkf := of_decide_eq_false hc4
     refine wp_seq ?_
     refine region_seq hS (by kernel_rfl)
       (cF rfl (o_eql .t (.ci (by kernel_rfl))) r1 trivial
       (cF rfl (o_assign .t (by rfl)) r1 trivial
       Chain.nil))
       (by kernel_rfl) (by rw [hB]; kernel_rfl) ?_
     clear hS; intro a w F hS
     obtain ⟨F, hS⟩ := hS.norm [(2, _), (3, _), (4, _), (5, _), (6, _), (7, _), (8, _), (9, _), (37, _), (72, _)] [(0, _), (1, _), (101, _), (102, _), (103, _)] ⟨rfl, rfl, rfl, rfl, rfl, rfl, rfl, rfl, rfl, rfl, trivial⟩ r5
     try dsimp only [rInt, rOneS, rDeedQ] at hS
     refine then_n ?_
     refine cond_b hS rfl (fun hc5 => ?_) (fun hc5 => ?_)
     ·skip
      have hkd : d.kind = 3 := by simpa using hc5
      have hokf := True.intro
      have he := set_ed (room := room) h1 (by omega) d.i d.val
      refine wp_seq ?_
      refine wp_seq ?_
      refine region_seq hS (by kernel_rfl)
        (cF rfl (o_move .t (by rfl)) r1 trivial
        Chain.nil)
        (by kernel_rfl) (by rw [hB]; kernel_rfl) ?_
      clear hS; intro a w F hS
      obtain ⟨F, hS⟩ := hS.norm [(2, _), (3, _), (4, _), (5, _), (6, _), (7, _), (8, _), (9, _), (74, _)] [(0, _), (1, _), (101, _), (102, _), (103, _)] ⟨rfl, rfl, rfl, rfl, rfl, rfl, rfl, rfl, rfl, trivial⟩ r5
      try dsimp only [rInt, rOneS, rDeedQ] at hS
      refine then_n ?_
      refine cond_b hS rfl (fun hc6 => ?_) (fun hc6 => ?_)
      ·skip
       have hth := hc6
       have hj := judge_gen (L' := l.set d.i.toNat d.val) h1 he.1 he.2 hh
       have hjl := True.intro
       have hg : (stepQO room q root t l d) = stepEd (decide (0 ≤ d.i ∧ d.i < (l.length : Int))) (qSetM room q d.val t root d.i) root t (setT d.val t d.i) l (l.set d.i.toNat d.val) := by unfold stepQO; rw [if_neg (by omega), if_pos hkd]
       refine region_seq hS (by kernel_rfl)
         (cF rfl (o_fieldAddr (off := 3) 101 .is (by kernel_rfl) (by rfl)) r1 r1
         (cF rfl (o_load (ag := false) (sz := 1) 101 .adr (by kernel_rfl) (by kernel_rfl) (by kernel_rfl) (by rfl)) r1 r1
         (cF rfl (o_fieldAddr (off := 2) 102 .is (by kernel_rfl) (by rfl)) r1 r1
         (cF rfl (o_load (ag := false) (sz := 1) 102 .adr (by kernel_rfl) (by kernel_rfl) (by kernel_rfl) (by rfl)) r1 r1
         (cF rfl (o_fieldAddr (off := 3) 102 .is (by kernel_rfl) (by rfl)) r1 r1
         (cF rfl (o_load (ag := false) (sz := 1) 102 .adr (by kernel_rfl) (by kernel_rfl) (by kernel_rfl) (by rfl)) r1 r1
         (cF rfl (o_callP (set07_c l d.i d.val (by omega) (by simpa using hth)) Try.func42 rfl (by kernel_rfl) (Args.three .t .t .t)) r3 trivial
         (cF rfl (o_assign .t (by rfl)) r1 trivial
         Chain.nil))))))))
         (by kernel_rfl) (by rw [hB]; kernel_rfl) ?_
       clear hS; intro a w F hS
       obtain ⟨F, hS⟩ := hS.norm [(2, _), (3, _), (4, _), (5, _), (6, _), (7, _), (8, _), (9, _)] [(0, _), (1, _), (101, _), (102, _), (103, _)] r8 r5
       try dsimp only [List.map, List.drop_succ_cons, List.drop_zero, List.drop_nil, List.take_succ_cons, List.take_zero, List.take_nil, ldSF, rInt, rOneS, rDeedQ] at hS
       refine then_n ?_
       refine wp_seq ?_
       refine region_seq hS (by kernel_rfl)
         (cF rfl (o_fieldAddr (off := 0) 101 .is (by kernel_rfl) (by rfl)) r1 r1
         (cF rfl (o_load (ag := true) (sz := 2) 101 .adr (by kernel_rfl) (by kernel_rfl) (by kernel_rfl) (by rfl)) r1 r1
         (cF rfl (o_fieldAddr (off := 2) 102 .is (by kernel_rfl) (by rfl)) r1 r1
         (cF rfl (o_load (ag := false) (sz := 1) 102 .adr (by kernel_rfl) (by kernel_rfl) (by kernel_rfl) (by rfl)) r1 r1
         (cF rfl (o_fieldAddr (off := 3) 102 .is (by kernel_rfl) (by rfl)) r1 r1
         (cF rfl (o_load (ag := false) (sz := 1) 102 .adr (by kernel_rfl) (by kernel_rfl) (by kernel_rfl) (by rfl)) r1 r1
         (cF rfl (o_callG1 1 (sSET_c (some b) room q root t hk.rep (by omega) d.i d.val) Try.func33 rfl (by kernel_rfl) (Args.three (.pagg .t) .t .t)) r3 r1
         (cF rfl (o_move .t (by rfl)) r1 trivial
         (cF rfl (o_extract .t rfl) r1 trivial
         (cF rfl (o_extract .t rfl) r1 trivial
         (cF rfl (o_alloc (zs := [.pointer none, .int .i64 0]) 107 (by kernel_rfl)) trivial trivial
         (cF rfl (o_storeA (sz := 2) 107 .same (.conv .t .agg) (by kernel_rfl) (by kernel_rfl) (by kernel_rfl)) r2 r1
         (cF rfl (o_assign .t (by rfl)) r1 trivial
         Chain.nil)))))))))))))
         (by kernel_rfl) (by rw [hB]; kernel_rfl) ?_
       clear hS; intro a w F hS
       replace hS := hS.sub
       obtain ⟨F, hS⟩ := hS.norm [(2, _), (4, _), (5, _), (6, _), (7, _), (8, _), (9, _), (12, _), (13, _)] [(0, _), (1, _), (101, _), (103, _), (107, _)] ⟨rfl, rfl, rfl, rfl, rfl, rfl, rfl, rfl, rfl, trivial⟩ r5
       try dsimp only [RS.sub, SF.sub, CF.sub, csub, Anc.sub, List.map, stCells, List.length_cons, List.length_nil, Nat.reduceAdd, List.drop_succ_cons, List.drop_zero, List.drop_nil, List.take_succ_cons, List.take_zero, List.take_nil, List.cons_append, List.nil_append, zCF, ldSF, rInt, rOneS, rDeedQ] at hS
       generalize Act.tau a 12 = v12 at hS
       refine then_n ?_
       refine wp_seq ?_
       refine region_seq hS (by kernel_rfl)
         (cF rfl (o_load (ag := true) (sz := 4) 101 .is (by kernel_rfl) (by kernel_rfl) (by kernel_rfl) (by rfl)) r1 r1
         (cF rfl (o_load (ag := true) (sz := 2) 107 .is (by kernel_rfl) (by kernel_rfl) (by kernel_rfl) (by rfl)) r1 r1
         (cF rfl (o_move .t (by rfl)) r1 trivial
         (cF rfl (o_move .t (by rfl)) r1 trivial
         (cF rfl (o_move .t (by rfl)) r1 trivial
         (cF rfl (o_move .t (by rfl)) r1 trivial
         (cF rfl (o_move .t (by rfl)) r1 trivial
         (cF rfl (o_callG1 1 (judge_c b room (qSetM room q d.val t root d.i).1 root l (qSetM room q d.val t root d.i).2.2 (jsel (decide (0 ≤ d.i ∧ d.i < (l.length : Int))) (qSetM room q d.val t root d.i).2.1 .nil (setT d.val t d.i)) hj.1 (qSetM room q d.val t root d.i).2.1 (decide (0 ≤ d.i ∧ d.i < (l.length : Int))) (l.set d.i.toNat d.val) q.length (decide (IntKind.wrap .i64 (3 * IntKind.wrap .i64 (tHigh t + 1)) ≤ room - q.length)) hj.2.1) Try.func41 rfl (by kernel_rfl) (Args.seven (.pagg .t) (.pagg .t) .t .t .t .t .t)) r7 r1
         (cF rfl (o_extract .t rfl) r1 trivial
         (cF rfl (o_extract .t rfl) r1 trivial
         (cF rfl (o_storeA (sz := 4) 103 .is (.conv .t .agg) (by kernel_rfl) (by kernel_rfl) (by kernel_rfl)) r2 r1
         (cF rfl (o_assign .t (by rfl)) r1 trivial
         Chain.nil))))))))))))
         (by kernel_rfl) (by rw [hB]; kernel_rfl) ?_
       clear hS; intro a w F hS
       obtain ⟨F, hS⟩ := hS.norm [(2, _), (4, _), (5, _)] [(0, _), (1, _), (101, _), (103, _)] r3 r4
       try dsimp only [List.map, stCells, List.length_cons, List.length_nil, Nat.reduceAdd, List.drop_succ_cons, List.drop_zero, List.drop_nil, List.take_succ_cons, List.take_zero, List.take_nil, List.cons_append, List.nil_append, zCF, ldSF, rInt, rOneS, rDeedQ] at hS
       refine then_n ?_
       refine wp_ret ?_
       refine block_r ?_
       refine then_r ?_
       have hS := hS.turn 1 rfl (r' := RS.hp (arH (some b) room (stepQO room q root t l d).q)) (fun _ _ _ _ h => by rw [hg]; exact h)
       have hS := hS.fresh 2 rfl
       have hS := hS.turn 2 rfl (r' := RS.hp (stepKQ (stepQO room q root t l d).mv b b)) (fun _ _ _ _ h => by rw [hg]; exact ⟨rfl, h⟩)
       refine ret_G2h (g := fun b => arV (some b)) (b0 := b) (l := fun u => [.int .i64 (stepQO room q root t l d).root, .is u, .sl rInt (stepQO room q root t l d).l]) (k2 := fun b2 => stepKQ (stepQO room q root t l d).mv b b2) hG hS rfl (.cell (n := 103) (ag := true) (sz := 4) rfl .is rfl (by kernel_rfl) (by kernel_rfl) (by kernel_rfl) (.tmp rfl .nil)) (.two (.aggU rfl (by rw [hg]; first | rfl | (simp only [hjl]; rfl))) (.bool (by first | rfl | (simp [hokf, tSize]; done) | (simp [hokf, tSize]; omega)))) rfl rfl
      ·skip
       have hth := hc6
       have hj := judge_gen (L' := l.set d.i.toNat d.val) h1 he.1 he.2 hh
       have hjl : jsel (decide (0 ≤ d.i ∧ d.i < (l.length : Int))) (qSetM room q d.val t root d.i).2.1 l (l.set d.i.toNat d.val) = jsel (decide (0 ≤ d.i ∧ d.i < (l.length : Int))) (qSetM room q d.val t root d.i).2.1 l [] := by unfold jsel; rw [if_pos (.inl hc6), if_pos (.inl hc6)]
       have hg : (stepQO room q root t l d) = stepEd (decide (0 ≤ d.i ∧ d.i < (l.length : Int))) (qSetM room q d.val t root d.i) root t (setT d.val t d.i) l [] := by unfold stepQO; rw [if_neg (by omega), if_pos hkd]; unfold stepEd; rw [hjl]
       refine wp_skip ?_
       refine then_n ?_
       refine wp_seq ?_
       refine region_seq hS (by kernel_rfl)
         (cF rfl (o_fieldAddr (off := 0) 101 .is (by kernel_rfl) (by rfl)) r1 r1
         (cF rfl (o_load (ag := true) (sz := 2) 101 .adr (by kernel_rfl) (by kernel_rfl) (by kernel_rfl) (by rfl)) r1 r1
         (cF rfl (o_fieldAddr (off := 2) 102 .is (by kernel_rfl) (by rfl)) r1 r1
         (cF rfl (o_load (ag := false) (sz := 1) 102 .adr (by kernel_rfl) (by kernel_rfl) (by kernel_rfl) (by rfl)) r1 r1
         (cF rfl (o_fieldAddr (off := 3) 102 .is (by kernel_rfl) (by rfl)) r1 r1
         (cF rfl (o_load (ag := false) (sz := 1) 102 .adr (by kernel_rfl) (by kernel_rfl) (by kernel_rfl) (by rfl)) r1 r1
         (cF rfl (o_callG1 1 (sSET_c (some b) room q root t hk.rep (by omega) d.i d.val) Try.func33 rfl (by kernel_rfl) (Args.three (.pagg .t) .t .t)) r3 r1
         (cF rfl (o_move .t (by rfl)) r1 trivial
         (cF rfl (o_extract .t rfl) r1 trivial
         (cF rfl (o_extract .t rfl) r1 trivial
         (cF rfl (o_alloc (zs := [.pointer none, .int .i64 0]) 108 (by kernel_rfl)) trivial trivial
         (cF rfl (o_storeA (sz := 2) 108 .same (.conv .t .agg) (by kernel_rfl) (by kernel_rfl) (by kernel_rfl)) r2 r1
         (cF rfl (o_assign .t (by rfl)) r1 trivial
         Chain.nil)))))))))))))
         (by kernel_rfl) (by rw [hB]; kernel_rfl) ?_
       clear hS; intro a w F hS
       replace hS := hS.sub
       obtain ⟨F, hS⟩ := hS.norm [(2, _), (4, _), (5, _), (6, _), (7, _), (8, _), (9, _), (12, _), (13, _)] [(0, _), (1, _), (101, _), (103, _), (108, _)] ⟨rfl, rfl, rfl, rfl, rfl, rfl, rfl, rfl, rfl, trivial⟩ r5
       try dsimp only [RS.sub, SF.sub, CF.sub, csub, Anc.sub, List.map, stCells, List.length_cons, List.length_nil, Nat.reduceAdd, List.drop_succ_cons, List.drop_zero, List.drop_nil, List.take_succ_cons, List.take_zero, List.take_nil, List.cons_append, List.nil_append, zCF, ldSF, rInt, rOneS, rDeedQ] at hS
       generalize Act.tau a 12 = v12 at hS
       refine then_n ?_
       refine wp_seq ?_
       refine region_seq hS (by kernel_rfl)
         (cF rfl (o_load (ag := true) (sz := 4) 101 .is (by kernel_rfl) (by kernel_rfl) (by kernel_rfl) (by rfl)) r1 r1
         (cF rfl (o_load (ag := true) (sz := 2) 108 .is (by kernel_rfl) (by kernel_rfl) (by kernel_rfl) (by rfl)) r1 r1
         (cF rfl (o_move .t (by rfl)) r1 trivial
         (cF rfl (o_move .t (by rfl)) r1 trivial
         (cF rfl (o_move .t (by rfl)) r1 trivial
         (cF rfl (o_move .t (by rfl)) r1 trivial
         (cF rfl (o_move .t (by rfl)) r1 trivial
         (cF rfl (o_callG1 1 (judge_c b room (qSetM room q d.val t root d.i).1 root l (qSetM room q d.val t root d.i).2.2 (jsel (decide (0 ≤ d.i ∧ d.i < (l.length : Int))) (qSetM room q d.val t root d.i).2.1 .nil (setT d.val t d.i)) hj.1 (qSetM room q d.val t root d.i).2.1 (decide (0 ≤ d.i ∧ d.i < (l.length : Int))) [] q.length (decide (IntKind.wrap .i64 (3 * IntKind.wrap .i64 (tHigh t + 1)) ≤ room - q.length)) hj.2.1) Try.func41 rfl (by kernel_rfl) (Args.seven (.pagg .t) (.pagg .t) .t .t (.conv .t (Ent.nilSl)) .t .t)) r7 r1
         (cF rfl (o_extract .t rfl) r1 trivial
         (cF rfl (o_extract .t rfl) r1 trivial
         (cF rfl (o_storeA (sz := 4) 103 .is (.conv .t .agg) (by kernel_rfl) (by kernel_rfl) (by kernel_rfl)) r2 r1
         (cF rfl (o_assign .t (by rfl)) r1 trivial
         Chain.nil))))))))))))
         (by kernel_rfl) (by rw [hB]; kernel_rfl) ?_
       clear hS; intro a w F hS
       obtain ⟨F, hS⟩ := hS.norm [(2, _), (4, _), (5, _)] [(0, _), (1, _), (101, _), (103, _)] r3 r4
       try dsimp only [List.map, stCells, List.length_cons, List.length_nil, Nat.reduceAdd, List.drop_succ_cons, List.drop_zero, List.drop_nil, List.take_succ_cons, List.take_zero, List.take_nil, List.cons_append, List.nil_append, zCF, ldSF, rInt, rOneS, rDeedQ] at hS
       refine then_n ?_
       refine wp_ret ?_
       refine block_r ?_
       refine then_r ?_
       have hS := hS.turn 1 rfl (r' := RS.hp (arH (some b) room (stepQO room q root t l d).q)) (fun _ _ _ _ h => by rw [hg]; exact h)
       have hS := hS.fresh 2 rfl
       have hS := hS.turn 2 rfl (r' := RS.hp (stepKQ (stepQO room q root t l d).mv b b)) (fun _ _ _ _ h => by rw [hg]; exact ⟨rfl, h⟩)
       refine ret_G2h (g := fun b => arV (some b)) (b0 := b) (l := fun u => [.int .i64 (stepQO room q root t l d).root, .is u, .sl rInt (stepQO room q root t l d).l]) (k2 := fun b2 => stepKQ (stepQO room q root t l d).mv b b2) hG hS rfl (.cell (n := 103) (ag := true) (sz := 4) rfl .is rfl (by kernel_rfl) (by kernel_rfl) (by kernel_rfl) (.tmp rfl .nil)) (.two (.aggU rfl (by rw [hg]; first | rfl | (simp only [hjl]; rfl))) (.bool (by first | rfl | (simp [hokf, tSize]; done) | (simp [hokf, tSize]; omega)))) rfl rfl
     ·skip
      have hkf3 := of_decide_eq_false hc5
      refine wp_seq ?_
      refine region_seq hS (by kernel_rfl)
        (cF rfl (o_eql .t (.ci (by kernel_rfl))) r1 trivial
        (cF rfl (o_assign .t (by rfl)) r1 trivial
        Chain.nil))
        (by kernel_rfl) (by rw [hB]; kernel_rfl) ?_
      clear hS; intro a w F hS
      obtain ⟨F, hS⟩ := hS.norm [(2, _), (3, _), (4, _), (5, _), (6, _), (7, _), (8, _), (9, _), (37, _), (102, _)] [(0, _), (1, _), (101, _), (102, _), (103, _)] ⟨rfl, rfl, rfl, rfl, rfl, rfl, rfl, rfl, rfl, rfl, trivial⟩ r5
      try dsimp only [rInt, rOneS, rDeedQ] at hS
      refine then_n ?_
      refine cond_b hS rfl (fun hc7 => ?_) (fun hc7 => ?_)
      ·skip
       have hkd : d.kind = 4 := by simpa using hc7
       have hokf := True.intro
       have he := del_ed (room := room) h1 (by omega) d.i
       refine wp_seq ?_
       refine wp_seq ?_
       refine region_seq hS (by kernel_rfl)
         (cF rfl (o_move .t (by rfl)) r1 trivial
         Chain.nil)
         (by kernel_rfl) (by rw [hB]; kernel_rfl) ?_
       clear hS; intro a w F hS
       obtain ⟨F, hS⟩ := hS.norm [(2, _), (3, _), (4, _), (5, _), (6, _), (7, _), (8, _), (9, _), (104, _)] [(0, _), (1, _), (101, _), (102, _), (103, _)] ⟨rfl, rfl, rfl, rfl, rfl, rfl, rfl, rfl, rfl, trivial⟩ r5
       try dsimp only [rInt, rOneS, rDeedQ] at hS
       refine then_n ?_
       refine cond_b hS rfl (fun hc8 => ?_) (fun hc8 => ?_)
       ·skip
        have hth := hc8
        have hj := judge_gen (L' := l.eraseIdx d.i.toNat) h1 he.1 he.2 hh
        have hjl := True.intro
        have hg : (stepQO room q root t l d) = stepEd (decide (0 ≤ d.i ∧ d.i < (l.length : Int))) (qDelM room q t root d.i) root t (sdelT t d.i) l (l.eraseIdx d.i.toNat) := by unfold stepQO; rw [if_neg (by omega), if_neg (by omega), if_pos hkd]
        refine region_seq hS (by kernel_rfl)
          (cF rfl (o_fieldAddr (off := 3) 101 .is (by kernel_rfl) (by rfl)) r1 r1
          (cF rfl (o_load (ag := false) (sz := 1) 101 .adr (by kernel_rfl) (by kernel_rfl) (by kernel_rfl) (by rfl)) r1 r1
          (cF rfl (o_fieldAddr (off := 2) 102 .is (by kernel_rfl) (by rfl)) r1 r1
          (cF rfl (o_load (ag := false) (sz := 1) 102 .adr (by kernel_rfl) (by kernel_rfl) (by kernel_rfl) (by rfl)) r1 r1
          (cF rfl (o_callP (del07_c l d.i (by omega) (by simpa using hth)) Try.func43 rfl (by kernel_rfl) (Args.two .t .t)) r2 trivial
          (cF rfl (o_assign .t (by rfl)) r1 trivial
          Chain.nil))))))
          (by kernel_rfl) (by rw [hB]; kernel_rfl) ?_
        clear hS; intro a w F hS
        obtain ⟨F, hS⟩ := hS.norm [(2, _), (3, _), (4, _), (5, _), (6, _), (7, _), (8, _), (9, _)] [(0, _), (1, _), (101, _), (102, _), (103, _)] r8 r5
        try dsimp only [List.map, List.drop_succ_cons, List.drop_zero, List.drop_nil, List.take_succ_cons, List.take_zero, List.take_nil, ldSF, rInt, rOneS, rDeedQ] at hS
        refine then_n ?_
        refine wp_seq ?_
        refine region_seq hS (by kernel_rfl)
          (cF rfl (o_fieldAddr (off := 0) 101 .is (by kernel_rfl) (by rfl)) r1 r1
          (cF rfl (o_load (ag := true) (sz := 2) 101 .adr (by kernel_rfl) (by kernel_rfl) (by kernel_rfl) (by rfl)) r1 r1
          (cF rfl (o_fieldAddr (off := 2) 102 .is (by kernel_rfl) (by rfl)) r1 r1
          (cF rfl (o_load (ag := false) (sz := 1) 102 .adr (by kernel_rfl) (by kernel_rfl) (by kernel_rfl) (by rfl)) r1 r1
          (cF rfl (o_callG1 1 (sDEL_c (some b) room q root t hk.rep (by omega) d.i) Try.func16 rfl (by kernel_rfl) (Args.two (.pagg .t) .t)) r2 r1
          (cF rfl (o_move .t (by rfl)) r1 trivial
          (cF rfl (o_extract .t rfl) r1 trivial
          (cF rfl (o_extract .t rfl) r1 trivial
          (cF rfl (o_alloc (zs := [.pointer none, .int .i64 0]) 109 (by kernel_rfl)) trivial trivial
          (cF rfl (o_storeA (sz := 2) 109 .same (.conv .t .agg) (by kernel_rfl) (by kernel_rfl) (by kernel_rfl)) r2 r1
          (cF rfl (o_assign .t (by rfl)) r1 trivial
          Chain.nil)))))))))))
          (by kernel_rfl) (by rw [hB]; kernel_rfl) ?_
        clear hS; intro a w F hS
        replace hS := hS.sub
        obtain ⟨F, hS⟩ := hS.norm [(2, _), (4, _), (5, _), (6, _), (7, _), (8, _), (9, _), (14, _), (15, _)] [(0, _), (1, _), (101, _), (103, _), (109, _)] ⟨rfl, rfl, rfl, rfl, rfl, rfl, rfl, rfl, rfl, trivial⟩ r5
        try dsimp only [RS.sub, SF.sub, CF.sub, csub, Anc.sub, List.map, stCells, List.length_cons, List.length_nil, Nat.reduceAdd, List.drop_succ_cons, List.drop_zero, List.drop_nil, List.take_succ_cons, List.take_zero, List.take_nil, List.cons_append, List.nil_append, zCF, ldSF, rInt, rOneS, rDeedQ] at hS
        generalize Act.tau a 14 = v14 at hS
        refine then_n ?_
        refine wp_seq ?_
        refine region_seq hS (by kernel_rfl)
          (cF rfl (o_load (ag := true) (sz := 4) 101 .is (by kernel_rfl) (by kernel_rfl) (by kernel_rfl) (by rfl)) r1 r1
          (cF rfl (o_load (ag := true) (sz := 2) 109 .is (by kernel_rfl) (by kernel_rfl) (by kernel_rfl) (by rfl)) r1 r1
          (cF rfl (o_move .t (by rfl)) r1 trivial
          (cF rfl (o_move .t (by rfl)) r1 trivial
          (cF rfl (o_move .t (by rfl)) r1 trivial
          (cF rfl (o_move .t (by rfl)) r1 trivial
          (cF rfl (o_move .t (by rfl)) r1 trivial
          (cF rfl (o_callG1 1 (judge_c b room (qDelM room q t root d.i).1 root l (qDelM room q t root d.i).2.2 (jsel (decide (0 ≤ d.i ∧ d.i < (l.length : Int))) (qDelM room q t root d.i).2.1 .nil (sdelT t d.i)) hj.1 (qDelM room q t root d.i).2.1 (decide (0 ≤ d.i ∧ d.i < (l.length : Int))) (l.eraseIdx d.i.toNat) q.length (decide (IntKind.wrap .i64 (3 * IntKind.wrap .i64 (tHigh t + 1)) ≤ room - q.length)) hj.2.1) Try.func41 rfl (by kernel_rfl) (Args.seven (.pagg .t) (.pagg .t) .t .t .t .t .t)) r7 r1
          (cF rfl (o_extract .t rfl) r1 trivial
          (cF rfl (o_extract .t rfl) r1 trivial
          (cF rfl (o_storeA (sz := 4) 103 .is (.conv .t .agg) (by kernel_rfl) (by kernel_rfl) (by kernel_rfl)) r2 r1
          (cF rfl (o_assign .t (by rfl)) r1 trivial
          Chain.nil))))))))))))
          (by kernel_rfl) (by rw [hB]; kernel_rfl) ?_
        clear hS; intro a w F hS
        obtain ⟨F, hS⟩ := hS.norm [(2, _), (4, _), (5, _)] [(0, _), (1, _), (101, _), (103, _)] r3 r4
        try dsimp only [List.map, stCells, List.length_cons, List.length_nil, Nat.reduceAdd, List.drop_succ_cons, List.drop_zero, List.drop_nil, List.take_succ_cons, List.take_zero, List.take_nil, List.cons_append, List.nil_append, zCF, ldSF, rInt, rOneS, rDeedQ] at hS
        refine then_n ?_
        refine wp_ret ?_
        refine block_r ?_
        refine then_r ?_
        have hS := hS.turn 1 rfl (r' := RS.hp (arH (some b) room (stepQO room q root t l d).q)) (fun _ _ _ _ h => by rw [hg]; exact h)
        have hS := hS.fresh 2 rfl
        have hS := hS.turn 2 rfl (r' := RS.hp (stepKQ (stepQO room q root t l d).mv b b)) (fun _ _ _ _ h => by rw [hg]; exact ⟨rfl, h⟩)
        refine ret_G2h (g := fun b => arV (some b)) (b0 := b) (l := fun u => [.int .i64 (stepQO room q root t l d).root, .is u, .sl rInt (stepQO room q root t l d).l]) (k2 := fun b2 => stepKQ (stepQO room q root t l d).mv b b2) hG hS rfl (.cell (n := 103) (ag := true) (sz := 4) rfl .is rfl (by kernel_rfl) (by kernel_rfl) (by kernel_rfl) (.tmp rfl .nil)) (.two (.aggU rfl (by rw [hg]; first | rfl | (simp only [hjl]; rfl))) (.bool (by first | rfl | (simp [hokf, tSize]; done) | (simp [hokf, tSize]; omega)))) rfl rfl
       ·skip
        have hth := hc8
        have hj := judge_gen (L' := l.eraseIdx d.i.toNat) h1 he.1 he.2 hh
        have hjl : jsel (decide (0 ≤ d.i ∧ d.i < (l.length : Int))) (qDelM room q t root d.i).2.1 l (l.eraseIdx d.i.toNat) = jsel (decide (0 ≤ d.i ∧ d.i < (l.length : Int))) (qDelM room q t root d.i).2.1 l [] := by unfold jsel; rw [if_pos (.inl hc8), if_pos (.inl hc8)]
        have hg : (stepQO room q root t l d) = stepEd (decide (0 ≤ d.i ∧ d.i < (l.length : Int))) (qDelM room q t root d.i) root t (sdelT t d.i) l [] := by unfold stepQO; rw [if_neg (by omega), if_neg (by omega), if_pos hkd]; unfold stepEd; rw [hjl]
        refine wp_skip ?_
        refine then_n ?_
        refine wp_seq ?_
        refine region_seq hS (by kernel_rfl)
          (cF rfl (o_fieldAddr (off := 0) 101 .is (by kernel_rfl) (by rfl)) r1 r1
          (cF rfl (o_load (ag := true) (sz := 2) 101 .adr (by kernel_rfl) (by kernel_rfl) (by kernel_rfl) (by rfl)) r1 r1
          (cF rfl (o_fieldAddr (off := 2) 102 .is (by kernel_rfl) (by rfl)) r1 r1
          (cF rfl (o_load (ag := false) (sz := 1) 102 .adr (by kernel_rfl) (by kernel_rfl) (by kernel_rfl) (by rfl)) r1 r1
          (cF rfl (o_callG1 1 (sDEL_c (some b) room q root t hk.rep (by omega) d.i) Try.func16 rfl (by kernel_rfl) (Args.two (.pagg .t) .t)) r2 r1
          (cF rfl (o_move .t (by rfl)) r1 trivial
          (cF rfl (o_extract .t rfl) r1 trivial
          (cF rfl (o_extract .t rfl) r1 trivial
          (cF rfl (o_alloc (zs := [.pointer none, .int .i64 0]) 110 (by kernel_rfl)) trivial trivial
          (cF rfl (o_storeA (sz := 2) 110 .same (.conv .t .agg) (by kernel_rfl) (by kernel_rfl) (by kernel_rfl)) r2 r1
          (cF rfl (o_assign .t (by rfl)) r1 trivial
          Chain.nil)))))))))))
          (by kernel_rfl) (by rw [hB]; kernel_rfl) ?_
        clear hS; intro a w F hS
        replace hS := hS.sub
        obtain ⟨F, hS⟩ := hS.norm [(2, _), (4, _), (5, _), (6, _), (7, _), (8, _), (9, _), (14, _), (15, _)] [(0, _), (1, _), (101, _), (103, _), (110, _)] ⟨rfl, rfl, rfl, rfl, rfl, rfl, rfl, rfl, rfl, trivial⟩ r5
        try dsimp only [RS.sub, SF.sub, CF.sub, csub, Anc.sub, List.map, stCells, List.length_cons, List.length_nil, Nat.reduceAdd, List.drop_succ_cons, List.drop_zero, List.drop_nil, List.take_succ_cons, List.take_zero, List.take_nil, List.cons_append, List.nil_append, zCF, ldSF, rInt, rOneS, rDeedQ] at hS
        generalize Act.tau a 14 = v14 at hS
        refine then_n ?_
        refine wp_seq ?_
        refine region_seq hS (by kernel_rfl)
          (cF rfl (o_load (ag := true) (sz := 4) 101 .is (by kernel_rfl) (by kernel_rfl) (by kernel_rfl) (by rfl)) r1 r1
          (cF rfl (o_load (ag := true) (sz := 2) 110 .is (by kernel_rfl) (by kernel_rfl) (by kernel_rfl) (by rfl)) r1 r1
          (cF rfl (o_move .t (by rfl)) r1 trivial
          (cF rfl (o_move .t (by rfl)) r1 trivial
          (cF rfl (o_move .t (by rfl)) r1 trivial
          (cF rfl (o_move .t (by rfl)) r1 trivial
          (cF rfl (o_move .t (by rfl)) r1 trivial
          (cF rfl (o_callG1 1 (judge_c b room (qDelM room q t root d.i).1 root l (qDelM room q t root d.i).2.2 (jsel (decide (0 ≤ d.i ∧ d.i < (l.length : Int))) (qDelM room q t root d.i).2.1 .nil (sdelT t d.i)) hj.1 (qDelM room q t root d.i).2.1 (decide (0 ≤ d.i ∧ d.i < (l.length : Int))) [] q.length (decide (IntKind.wrap .i64 (3 * IntKind.wrap .i64 (tHigh t + 1)) ≤ room - q.length)) hj.2.1) Try.func41 rfl (by kernel_rfl) (Args.seven (.pagg .t) (.pagg .t) .t .t (.conv .t (Ent.nilSl)) .t .t)) r7 r1
          (cF rfl (o_extract .t rfl) r1 trivial
          (cF rfl (o_extract .t rfl) r1 trivial
          (cF rfl (o_storeA (sz := 4) 103 .is (.conv .t .agg) (by kernel_rfl) (by kernel_rfl) (by kernel_rfl)) r2 r1
          (cF rfl (o_assign .t (by rfl)) r1 trivial
          Chain.nil))))))))))))
          (by kernel_rfl) (by rw [hB]; kernel_rfl) ?_
        clear hS; intro a w F hS
        obtain ⟨F, hS⟩ := hS.norm [(2, _), (4, _), (5, _)] [(0, _), (1, _), (101, _), (103, _)] r3 r4
        try dsimp only [List.map, stCells, List.length_cons, List.length_nil, Nat.reduceAdd, List.drop_succ_cons, List.drop_zero, List.drop_nil, List.take_succ_cons, List.take_zero, List.take_nil, List.cons_append, List.nil_append, zCF, ldSF, rInt, rOneS, rDeedQ] at hS
        refine then_n ?_
        refine wp_ret ?_
        refine block_r ?_
        refine then_r ?_
        have hS := hS.turn 1 rfl (r' := RS.hp (arH (some b) room (stepQO room q root t l d).q)) (fun _ _ _ _ h => by rw [hg]; exact h)
        have hS := hS.fresh 2 rfl
        have hS := hS.turn 2 rfl (r' := RS.hp (stepKQ (stepQO room q root t l d).mv b b)) (fun _ _ _ _ h => by rw [hg]; exact ⟨rfl, h⟩)
        refine ret_G2h (g := fun b => arV (some b)) (b0 := b) (l := fun u => [.int .i64 (stepQO room q root t l d).root, .is u, .sl rInt (stepQO room q root t l d).l]) (k2 := fun b2 => stepKQ (stepQO room q root t l d).mv b b2) hG hS rfl (.cell (n := 103) (ag := true) (sz := 4) rfl .is rfl (by kernel_rfl) (by kernel_rfl) (by kernel_rfl) (.tmp rfl .nil)) (.two (.aggU rfl (by rw [hg]; first | rfl | (simp only [hjl]; rfl))) (.bool (by first | rfl | (simp [hokf, tSize]; done) | (simp [hokf, tSize]; omega)))) rfl rfl
      ·skip
       have hkf4 := of_decide_eq_false hc7
       refine wp_seq ?_
       refine wp_seq ?_
       refine region_seq hS (by kernel_rfl)
         (cF rfl (o_eql .t (.ci (by kernel_rfl))) r1 trivial
         (cF rfl (o_assign .t (by rfl)) r1 trivial
         Chain.nil))
         (by kernel_rfl) (by rw [hB]; kernel_rfl) ?_
       clear hS; intro a w F hS
       obtain ⟨F, hS⟩ := hS.norm [(2, _), (3, _), (4, _), (5, _), (37, _), (128, _)] [(0, _), (1, _), (101, _), (102, _), (103, _)] r6 r5
       try dsimp only [rInt, rOneS, rDeedQ] at hS
       refine then_n ?_
       refine cond_b hS rfl (fun hc9 => ?_) (fun hc9 => ?_)
       ·skip
        have hkd : d.kind = 5 ∨ d.kind = 6 := by simp at hc9; omega
        have hp : (stepQO room q root t l d) = stepMv q root t l (refRoom d.val) := by unfold stepQO; rw [if_neg (by omega), if_neg (by omega), if_neg (by omega), if_pos hkd]
        refine wp_skip ?_
        refine then_n ?_
        refine cond_b hS rfl (fun hc10 => ?_) (fun hc10 => ?_)
        ·skip
         have hkd : d.kind = 5 ∨ d.kind = 6 := by simp at hc10; omega
         have hp : (stepQO room q root t l d) = stepMv q root t l (refRoom d.val) := by unfold stepQO; rw [if_neg (by omega), if_neg (by omega), if_neg (by omega), if_pos hkd]
         refine wp_seq ?_
         have hS := hS.fresh 42 rfl
         refine region_seq hS (by kernel_rfl)
           (cF rfl (o_fieldAddr (off := 3) 102 .is (by kernel_rfl) (by rfl)) r1 r1
           (cF rfl (o_load (ag := false) (sz := 1) 102 .adr (by kernel_rfl) (by kernel_rfl) (by kernel_rfl) (by rfl)) r1 r1
           (cF rfl (o_callN 42 (aNew_c d.val (refRoom d.val) rfl) Try.func9 rfl (by kernel_rfl) (Args.one .t) PV.ptr_one) r1 r1
           (cF rfl (o_assign .t (by rfl)) r1 trivial
           Chain.nil))))
           (by kernel_rfl) (by rw [hB]; kernel_rfl) ?_
         clear hS; intro a w F hS
         replace hS := hS.sub
         obtain ⟨F, hS⟩ := hS.norm [(2, _), (3, _), (4, _), (5, _), (16, _)] [(0, _), (1, _), (42, _), (101, _), (102, _), (103, _)] r5 r6
         try dsimp only [RS.sub, SF.sub, CF.sub, csub, Anc.sub, List.map, List.drop_succ_cons, List.drop_zero, List.drop_nil, List.take_succ_cons, List.take_zero, List.take_nil, ldSF, rInt, rOneS, rDeedQ] at hS
         generalize Act.tau a 133 = v133 at hS
         obtain ⟨_, _, _, ho⟩ := hS.obGet 42 rfl
         obtain ⟨b2, rfl⟩ := arNamed_ptr ho
         clear ho
         replace hS := hS.turn 42 rfl (r' := RS.hp (arH (some b2) (refRoom d.val) [])) (fun _ _ _ _ h => arNamed_open h)
         obtain ⟨F, hS⟩ := hS.norm [(2, _), (3, _), (4, _), (5, _), (16, _)] [(0, _), (1, _), (42, _), (101, _), (102, _), (103, _)] r5 r6
         refine then_n ?_
         refine wp_seq ?_
         refine region_seq hS (by kernel_rfl)
           (cF rfl (o_fieldAddr (off := 0) 101 .is (by kernel_rfl) (by rfl)) r1 r1
           (cF rfl (o_load (ag := true) (sz := 2) 101 .adr (by kernel_rfl) (by kernel_rfl) (by kernel_rfl) (by rfl)) r1 r1
           (cF rfl (o_move .t (by rfl)) r1 trivial
           (cF rfl (o_callG2c 1 42 (sMove_c (some b) room q root t hk.rep (by omega) (some b2) (refRoom d.val) []) Try.func35 rfl (by kernel_rfl) rfl (Args.two (.pagg .t) .t)) r2 r2
           (cF rfl (o_move .t (by rfl)) r1 trivial
           (cF rfl (o_extract .t rfl) r1 trivial
           (cF rfl (o_extract .t rfl) r1 trivial
           (cF rfl (o_alloc (zs := [.pointer none, .int .i64 0]) 111 (by kernel_rfl)) trivial trivial
           (cF rfl (o_storeA (sz := 2) 111 .same (.conv .t .agg) (by kernel_rfl) (by kernel_rfl) (by kernel_rfl)) r2 r1
           (cF rfl (o_assign .t (by rfl)) r1 trivial
           Chain.nil))))))))))
           (by kernel_rfl) (by rw [hB]; kernel_rfl) ?_
         clear hS; intro a w F hS
         replace hS := hS.sub
         obtain ⟨F, hS⟩ := hS.norm [(2, _), (3, _), (4, _), (5, _), (16, _), (17, _), (18, _)] [(0, _), (1, _), (42, _), (101, _), (102, _), (103, _), (111, _)] r7 r7
         try dsimp only [RS.sub, SF.sub, CF.sub, csub, Anc.sub, List.map, stCells, List.length_cons, List.length_nil, Nat.reduceAdd, List.drop_succ_cons, List.drop_zero, List.drop_nil, List.take_succ_cons, List.take_zero, List.take_nil, List.cons_append, List.nil_append, zCF, ldSF, rInt, rOneS, rDeedQ] at hS
         generalize Act.tau a 17 = v17 at hS
         rw [hl] at hS
         refine then_n ?_
         refine wp_seq ?_
         refine wp_seq ?_
         refine region_seq hS (by kernel_rfl)
           (cF rfl (o_fieldAddr (off := 0) 102 .is (by kernel_rfl) (by rfl)) r1 r1
           (cF rfl (o_load (ag := false) (sz := 1) 102 .adr (by kernel_rfl) (by kernel_rfl) (by kernel_rfl) (by rfl)) r1 r1
           (cF rfl (o_eql .t (.ci (by kernel_rfl))) r1 trivial
           Chain.nil)))
           (by kernel_rfl) (by rw [hB]; kernel_rfl) ?_
         clear hS; intro a w F hS
         obtain ⟨F, hS⟩ := hS.norm [(2, _), (3, _), (4, _), (5, _), (16, _), (17, _), (18, _), (143, _)] [(0, _), (1, _), (42, _), (101, _), (102, _), (103, _), (111, _)] r8 r7
         try dsimp only [List.map, List.drop_succ_cons, List.drop_zero, List.drop_nil, List.take_succ_cons, List.take_zero, List.take_nil, ldSF, rInt, rOneS, rDeedQ] at hS
         refine then_n ?_
         refine cond_b hS rfl (fun hc11 => ?_) (fun hc11 => ?_)
         ·skip
          refine wp_seq ?_
          have hS := hS.fresh 43 rfl
          refine region_seq hS (by kernel_rfl)
            (cF rfl (o_fieldAddr (off := 3) 102 .is (by kernel_rfl) (by rfl)) r1 r1
            (cF rfl (o_load (ag := false) (sz := 1) 102 .adr (by kernel_rfl) (by kernel_rfl) (by kernel_rfl) (by rfl)) r1 r1
            (cF rfl (o_callN 43 (aNew_c d.val (refRoom d.val) rfl) Try.func9 rfl (by kernel_rfl) (Args.one .t) PV.ptr_one) r1 r1
            (cF rfl (o_assign .t (by rfl)) r1 trivial
            Chain.nil))))
            (by kernel_rfl) (by rw [hB]; kernel_rfl) ?_
          clear hS; intro a w F hS
          replace hS := hS.sub
          obtain ⟨F, hS⟩ := hS.norm [(2, _), (3, _), (4, _), (5, _), (16, _), (17, _), (18, _)] [(0, _), (1, _), (42, _), (43, _), (101, _), (102, _), (103, _), (111, _)] r7 r8
          try dsimp only [RS.sub, SF.sub, CF.sub, csub, Anc.sub, List.map, List.drop_succ_cons, List.drop_zero, List.drop_nil, List.take_succ_cons, List.take_zero, List.take_nil, ldSF, rInt, rOneS, rDeedQ] at hS
          generalize Act.tau a 146 = v146 at hS
          obtain ⟨_, _, _, ho⟩ := hS.obGet 43 rfl
          obtain ⟨b3, rfl⟩ := arNamed_ptr ho
          clear ho
          replace hS := hS.turn 43 rfl (r' := RS.hp (arH (some b3) (refRoom d.val) [])) (fun _ _ _ _ h => arNamed_open h)
          obtain ⟨F, hS⟩ := hS.norm [(2, _), (3, _), (4, _), (5, _), (16, _), (17, _), (18, _)] [(0, _), (1, _), (42, _), (43, _), (101, _), (102, _), (103, _), (111, _)] r7 r8
          refine then_n ?_
          refine region_seq hS (by kernel_rfl)
            (cF rfl (o_move .t (by rfl)) r1 trivial
            (cF rfl (o_fieldAddr (off := 3) 101 .is (by kernel_rfl) (by rfl)) r1 r1
            (cF rfl (o_load (ag := false) (sz := 1) 101 .adr (by kernel_rfl) (by kernel_rfl) (by kernel_rfl) (by rfl)) r1 r1
            (cF rfl (o_callG1 43 (sOf_c (some b3) (refRoom d.val) [] l) Try.func44 rfl (by kernel_rfl) (Args.two .t .t)) r2 r1
            (cF rfl (o_move .t (by rfl)) r1 trivial
            (cF rfl (o_extract .t rfl) r1 trivial
            (cF rfl (o_extract .t rfl) r1 trivial
            (cF rfl (o_storeA (sz := 2) 111 .is (.conv .t .agg) (by kernel_rfl) (by kernel_rfl) (by kernel_rfl)) r2 r1
            (cF rfl (o_assign .t (by rfl)) r1 trivial
            Chain.nil)))))))))
            (by kernel_rfl) (by rw [hB]; kernel_rfl) ?_
          clear hS; intro a w F hS
          obtain ⟨F, hS⟩ := hS.norm [(2, _), (3, _), (4, _), (5, _), (16, _), (17, _), (18, _)] [(0, _), (1, _), (42, _), (43, _), (101, _), (102, _), (103, _), (111, _)] r7 r8
          try dsimp only [List.map, stCells, List.length_cons, List.length_nil, Nat.reduceAdd, List.drop_succ_cons, List.drop_zero, List.drop_nil, List.take_succ_cons, List.take_zero, List.take_nil, List.cons_append, List.nil_append, zCF, ldSF, rInt, rOneS, rDeedQ] at hS
          refine then_n ?_
          refine wp_seq ?_
          refine wp_seq ?_
          refine region_seq hS (by kernel_rfl)
            (cF rfl (o_move .t (by rfl)) r1 trivial
            (cF rfl (o_eql .t (.ci (by kernel_rfl))) r1 trivial
            Chain.nil))
            (by kernel_rfl) (by rw [hB]; kernel_rfl) ?_
          clear hS; intro a w F hS
          obtain ⟨F, hS⟩ := hS.norm [(2, _), (3, _), (4, _), (5, _), (16, _), (17, _), (18, _), (155, _)] [(0, _), (1, _), (42, _), (43, _), (101, _), (102, _), (103, _), (111, _)] r8 r8
          try dsimp only [rInt, rOneS, rDeedQ] at hS
          refine then_n ?_
          refine cond_b hS rfl (fun hc12 => ?_) (fun hc12 => ?_)
          ·skip
           have hw : (qOfM (refRoom d.val) [] l).2.1 = 2 := by simpa using hc12
           have hM : (qOfM (refRoom d.val) [] l) = ([], 2, 0) ∧ refRoom d.val < l.length := by rcases seq_of (room := refRoom d.val) (l := l) (by omega) with ⟨e, r, hM, _⟩ | h; (rw [hM] at hw; simp at hw); exact h
           have hokf := hM.2
           have hjl := True.intro
           have hg : (stepQO room q root t l d) = ⟨q, root, t, l, none⟩ := by rw [hp]; exact if_pos hw
           rw [hM.1] at hS
           refine wp_seq ?_
           refine region_any (by kernel_rfl) hS (by kernel_rfl)
             (cF rfl (o_load (ag := true) (sz := 4) 101 .is (by kernel_rfl) (by kernel_rfl) (by kernel_rfl) (by rfl)) r1 r1
             (cF rfl (o_fieldAddr (off := 3) 102 .is (by kernel_rfl) (by rfl)) r1 r1
             (cF rfl (o_load (ag := false) (sz := 1) 102 .adr (by kernel_rfl) (by kernel_rfl) (by kernel_rfl) (by rfl)) r1 r1
             (cF rfl (o_callP (refRoom_c d.val) Try.func45 rfl (by kernel_rfl) (Args.one .t)) r1 trivial
             (cF rfl (o_fieldAddr (off := 3) 101 .is (by kernel_rfl) (by rfl)) r1 r1
             (cF rfl (o_load (ag := false) (sz := 1) 101 .adr (by kernel_rfl) (by kernel_rfl) (by kernel_rfl) (by rfl)) r1 r1
             (cF rfl (o_len_sl Try.underlying29 .t) r1 trivial
             (cF rfl (o_lss .t .t) r2 trivial
             (cF rfl (o_move .t (by rfl)) r1 trivial
             (Chain.cons (Cert.cond rfl rfl (fun h => o_move .t (by rfl))) r2 trivial
             (Chain.cons (Cert.condR rfl rfl (by rfl) (fun h => o_callG1 43 (aLen_c (some b3) (refRoom d.val) []) Try.func37 rfl (by kernel_rfl) (Args.one (.w h)))) r2 r1
             (Chain.cons (Cert.cond rfl rfl (fun h => o_eql (.w h) (.ci (by kernel_rfl)))) r2 trivial
             (cF rfl (o_and2 .t .t) r2 trivial
             (cF rfl (o_move .t (by rfl)) r1 trivial
             (Chain.cons (Cert.cond rfl rfl (fun h => o_load (ag := true) (sz := 2) 111 .is (by kernel_rfl) (by kernel_rfl) (by kernel_rfl) (by rfl))) r2 r1
             (Chain.cons (Cert.condR rfl rfl (by rfl) (fun h => o_callG1 43 (slen_c (some b3) (refRoom d.val) [] 0 .nil rfl) Try.func14 rfl (by kernel_rfl) (Args.one (.pagg (.w h))))) r2 r1
             (Chain.cons (Cert.cond rfl rfl (fun h => o_eql (.w h) (.ci (by kernel_rfl)))) r2 trivial
             (cF rfl (o_and2 .t .t) r2 trivial
             (cF rfl (o_storeA (sz := 4) 103 .is .t (by kernel_rfl) (by kernel_rfl) (by kernel_rfl)) r2 r1
             (cF rfl (o_assign .t (by rfl)) r1 trivial
             Chain.nil))))))))))))))))))))
             (by kernel_rfl) (by rw [hB]; kernel_rfl) ?_
           clear hS; intro a w F hS
           obtain ⟨F, hS⟩ := hS.norm [(2, _), (3, _), (4, _), (5, _), (16, _), (17, _), (18, _)] [(0, _), (1, _), (42, _), (43, _), (101, _), (102, _), (103, _), (111, _)] r7 r8
           try dsimp only [List.map, stCells, List.length_cons, List.length_nil, Nat.reduceAdd, List.drop_succ_cons, List.drop_zero, List.drop_nil, List.take_succ_cons, List.take_zero, List.take_nil, List.cons_append, List.nil_append, zCF, ldSF, rInt, rOneS, rDeedQ] at hS
           refine then_n ?_
           refine wp_ret ?_
           refine then_r ?_
           refine block_r ?_
           refine then_r ?_
           have hS := hS.turn 1 rfl (r' := RS.hp (arH (some b) room (stepQO room q root t l d).q)) (fun _ _ _ _ h => by rw [hg]; exact h)
           have hS := hS.fresh 2 rfl
           have hS := hS.turn 2 rfl (r' := RS.hp (stepKQ (stepQO room q root t l d).mv b b)) (fun _ _ _ _ h => by rw [hg]; exact ⟨rfl, h⟩)
           refine ret_G2h (g := fun b => arV (some b)) (b0 := b) (l := fun u => [.int .i64 (stepQO room q root t l d).root, .is u, .sl rInt (stepQO room q root t l d).l]) (k2 := fun b2 => stepKQ (stepQO room q root t l d).mv b b2) hG hS rfl (.cell (n := 103) (ag := true) (sz := 4) rfl .is rfl (by kernel_rfl) (by kernel_rfl) (by kernel_rfl) (.tmp rfl .nil)) (.two (.aggU rfl (by rw [hg]; first | rfl | (simp only [hjl]; rfl))) (.bool (by first | rfl | (simp [hokf, tSize]; done) | (simp [hokf, tSize]; omega)))) rfl rfl
          ·skip
           have hw : ¬ (qOfM (refRoom d.val) [] l).2.1 = 2 := by simpa using hc12
           obtain ⟨e, r, hM, hk2, hel⟩ : ∃ (e : List Cell) (r : Int), (qOfM (refRoom d.val) [] l) = (e, 0, r) ∧ SeqOk e (allT (l.length + 1) (l.map kp)) r ∧ e.length = l.length := by rcases seq_of (room := refRoom d.val) (l := l) (by omega) with h | ⟨h, _⟩; exact h; rw [h] at hw; exact absurd rfl hw
           rw [hM] at hS
           obtain ⟨_, _, _, ho⟩ := hS.obGet 43 rfl
           have hI : ArOk (refRoom d.val) e := arH_ok ho
           clear ho
           have hokf : ((l.length : Int) ≤ refRoom d.val) ∧ e.length = l.length := ⟨by rw [← hel]; exact hI.le, hel⟩
           have hjl := True.intro
           have hg : (stepQO room q root t l d) = ⟨q, r, allT (l.length + 1) (l.map kp), l, some (refRoom d.val, e)⟩ := by rw [hp]; unfold stepMv; rw [if_neg hw, hM]
           refine wp_skip ?_
           refine then_n ?_
           refine wp_seq ?_
           refine region_any (by kernel_rfl) hS (by kernel_rfl)
             (cF rfl (o_load (ag := true) (sz := 2) 111 .is (by kernel_rfl) (by kernel_rfl) (by kernel_rfl) (by rfl)) r1 r1
             (cF rfl (o_move .t (by rfl)) r1 trivial
             (cF rfl (o_fieldAddr (off := 3) 101 .is (by kernel_rfl) (by rfl)) r1 r1
             (cF rfl (o_load (ag := false) (sz := 1) 101 .adr (by kernel_rfl) (by kernel_rfl) (by kernel_rfl) (by rfl)) r1 r1
             (cF rfl (o_build (r := [(0, .tmp 174), (1, .tmp 175), (2, .tmp 177)]) (zs := [.pointer none, .int .i64 0, .pointer none, .slice none 0 0]) (pl := [(0, 2), (2, 1), (3, 1)]) (by kernel_rfl) (by kernel_rfl) (.agg rfl .t (by kernel_rfl) (by kernel_rfl) (.one rfl .t one_is (by kernel_rfl) (.one rfl .t one_sl (by kernel_rfl) .nil))) (by rfl)) r3 trivial
             (cF rfl (o_move .t (by rfl)) r1 trivial
             (cF rfl (o_eql .t (.ci (by kernel_rfl))) r1 trivial
             (cF rfl (o_move .t (by rfl)) r1 trivial
             (Chain.cons (Cert.cond rfl rfl (fun h => o_fieldAddr (off := 3) 102 .is (by kernel_rfl) (by rfl))) r2 r1
             (Chain.cons (Cert.cond rfl rfl (fun h => o_load (ag := false) (sz := 1) 102 (.w h .adr) (by kernel_rfl) (by kernel_rfl) (by kernel_rfl) (by rfl))) r2 r1
             (Chain.cons (Cert.cond rfl rfl (fun h => o_callP (refRoom_c d.val) Try.func45 rfl (by kernel_rfl) (Args.one (.w h)))) r2 trivial
             (Chain.cons (Cert.cond rfl rfl (fun h => o_fieldAddr (off := 3) 101 .is (by kernel_rfl) (by rfl))) r2 r1
             (Chain.cons (Cert.cond rfl rfl (fun h => o_load (ag := false) (sz := 1) 101 (.w h .adr) (by kernel_rfl) (by kernel_rfl) (by kernel_rfl) (by rfl))) r2 r1
             (Chain.cons (Cert.cond rfl rfl (fun h => o_len_sl Try.underlying29 (.w h))) r2 trivial
             (Chain.cons (Cert.cond rfl rfl (fun h => o_geq (.w h) (.w h))) r3 trivial
             (cF rfl (o_and2 .t .t) r2 trivial
             (cF rfl (o_move .t (by rfl)) r1 trivial
             (Chain.cons (Cert.cond rfl rfl (fun h => o_move .t (by rfl))) r2 trivial
             (Chain.cons (Cert.condR rfl rfl (by rfl) (fun h => o_callG1 43 (aLen_c (some b3) (refRoom d.val) e) Try.func37 rfl (by kernel_rfl) (Args.one (.w h)))) r2 r1
             (Chain.cons (Cert.cond rfl rfl (fun h => o_fieldAddr (off := 3) 101 .is (by kernel_rfl) (by rfl))) r2 r1
             (Chain.cons (Cert.cond rfl rfl (fun h => o_load (ag := false) (sz := 1) 101 (.w h .adr) (by kernel_rfl) (by kernel_rfl) (by kernel_rfl) (by rfl))) r2 r1
             (Chain.cons (Cert.cond rfl rfl (fun h => o_len_sl Try.underlying29 (.w h))) r2 trivial
             (Chain.cons (Cert.cond rfl rfl (fun h => o_eql (.w h) (.w h))) r3 trivial
             (cF rfl (o_and2 .t .t) r2 trivial
             (cF rfl (o_storeA (sz := 4) 103 .is .t (by kernel_rfl) (by kernel_rfl) (by kernel_rfl)) r2 r1
             (cF rfl (o_assign .t (by rfl)) r1 trivial
             Chain.nil))))))))))))))))))))))))))
             (by kernel_rfl) (by rw [hB]; kernel_rfl) ?_
           clear hS; intro a w F hS
           obtain ⟨F, hS⟩ := hS.norm [(2, _), (4, _), (5, _)] [(0, _), (1, _), (42, _), (43, _), (101, _), (103, _)] r3 r6
           try dsimp only [List.map, stCells, List.length_cons, List.length_nil, Nat.reduceAdd, List.drop_succ_cons, List.drop_zero, List.drop_nil, List.take_succ_cons, List.take_zero, List.take_nil, List.cons_append, List.nil_append, zCF, ldSF, rInt, rOneS, rDeedQ] at hS
           refine then_n ?_
           refine wp_ret ?_
           refine block_r ?_
           refine then_r ?_
           have hS := hS.turn 1 rfl (r' := RS.hp (arH (some b) room (stepQO room q root t l d).q)) (fun _ _ _ _ h => by rw [hg]; exact h)
           obtain ⟨F, hS⟩ := hS.rename 43 2 rfl rfl
           have hS := hS.turn 2 rfl (r' := RS.hp (stepKQ (stepQO room q root t l d).mv b b3)) (fun _ _ _ _ h => by rw [hg]; exact h)
           refine ret_G2h (g := fun b => arV (some b)) (b0 := b3) (l := fun u => [.int .i64 (stepQO room q root t l d).root, .is u, .sl rInt (stepQO room q root t l d).l]) (k2 := fun b2 => stepKQ (stepQO room q root t l d).mv b b2) hG hS rfl (.cell (n := 103) (ag := true) (sz := 4) rfl .is rfl (by kernel_rfl) (by kernel_rfl) (by kernel_rfl) (.tmp rfl .nil)) (.two (.aggU rfl (by rw [hg]; first | rfl | (simp only [hjl]; rfl))) (.bool (by first | rfl | (simp [hokf, tSize]; done) | (simp [hokf, tSize]; omega)))) rfl rfl
         ·skip
          refine wp_skip ?_
          refine then_n ?_
          refine wp_seq ?_
          refine wp_seq ?_
          refine region_seq hS (by kernel_rfl)
            (cF rfl (o_move .t (by rfl)) r1 trivial
            (cF rfl (o_eql .t (.ci (by kernel_rfl))) r1 trivial
            Chain.nil))
            (by kernel_rfl) (by rw [hB]; kernel_rfl) ?_
          clear hS; intro a w F hS
          obtain ⟨F, hS⟩ := hS.norm [(2, _), (3, _), (4, _), (5, _), (16, _), (17, _), (18, _), (155, _)] [(0, _), (1, _), (42, _), (101, _), (102, _), (103, _), (111, _)] r8 r7
          try dsimp only [rInt, rOneS, rDeedQ] at hS
          refine then_n ?_
          refine cond_b hS rfl (fun hc13 => ?_) (fun hc13 => ?_)
          ·skip
           have hw : (qOfM (refRoom d.val) [] l).2.1 = 2 := by simpa using hc13
           have hM : (qOfM (refRoom d.val) [] l) = ([], 2, 0) ∧ refRoom d.val < l.length := by rcases seq_of (room := refRoom d.val) (l := l) (by omega) with ⟨e, r, hM, _⟩ | h; (rw [hM] at hw; simp at hw); exact h
           have hokf := hM.2
           have hjl := True.intro
           have hg : (stepQO room q root t l d) = ⟨q, root, t, l, none⟩ := by rw [hp]; exact if_pos hw
           rw [hM.1] at hS
           refine wp_seq ?_
           refine region_any (by kernel_rfl) hS (by kernel_rfl)
             (cF rfl (o_load (ag := true) (sz := 4) 101 .is (by kernel_rfl) (by kernel_rfl) (by kernel_rfl) (by rfl)) r1 r1
             (cF rfl (o_fieldAddr (off := 3) 102 .is (by kernel_rfl) (by rfl)) r1 r1
             (cF rfl (o_load (ag := false) (sz := 1) 102 .adr (by kernel_rfl) (by kernel_rfl) (by kernel_rfl) (by rfl)) r1 r1
             (cF rfl (o_callP (refRoom_c d.val) Try.func45 rfl (by kernel_rfl) (Args.one .t)) r1 trivial
             (cF rfl (o_fieldAddr (off := 3) 101 .is (by kernel_rfl) (by rfl)) r1 r1
             (cF rfl (o_load (ag := false) (sz := 1) 101 .adr (by kernel_rfl) (by kernel_rfl) (by kernel_rfl) (by rfl)) r1 r1
             (cF rfl (o_len_sl Try.underlying29 .t) r1 trivial
             (cF rfl (o_lss .t .t) r2 trivial
             (cF rfl (o_move .t (by rfl)) r1 trivial
             (Chain.cons (Cert.cond rfl rfl (fun h => o_move .t (by rfl))) r2 trivial
             (Chain.cons (Cert.condR rfl rfl (by rfl) (fun h => o_callG1 42 (aLen_c (some b2) (refRoom d.val) []) Try.func37 rfl (by kernel_rfl) (Args.one (.w h)))) r2 r1
             (Chain.cons (Cert.cond rfl rfl (fun h => o_eql (.w h) (.ci (by kernel_rfl)))) r2 trivial
             (cF rfl (o_and2 .t .t) r2 trivial
             (cF rfl (o_move .t (by rfl)) r1 trivial
             (Chain.cons (Cert.cond rfl rfl (fun h => o_load (ag := true) (sz := 2) 111 .is (by kernel_rfl) (by kernel_rfl) (by kernel_rfl) (by rfl))) r2 r1
             (Chain.cons (Cert.condR rfl rfl (by rfl) (fun h => o_callG1 42 (slen_c (some b2) (refRoom d.val) [] 0 .nil rfl) Try.func14 rfl (by kernel_rfl) (Args.one (.pagg (.w h))))) r2 r1
             (Chain.cons (Cert.cond rfl rfl (fun h => o_eql (.w h) (.ci (by kernel_rfl)))) r2 trivial
             (cF rfl (o_and2 .t .t) r2 trivial
             (cF rfl (o_storeA (sz := 4) 103 .is .t (by kernel_rfl) (by kernel_rfl) (by kernel_rfl)) r2 r1
             (cF rfl (o_assign .t (by rfl)) r1 trivial
             Chain.nil))))))))))))))))))))
             (by kernel_rfl) (by rw [hB]; kernel_rfl) ?_
           clear hS; intro a w F hS
           obtain ⟨F, hS⟩ := hS.norm [(2, _), (3, _), (4, _), (5, _), (16, _), (17, _), (18, _)] [(0, _), (1, _), (42, _), (101, _), (102, _), (103, _), (111, _)] r7 r7
           try dsimp only [List.map, stCells, List.length_cons, List.length_nil, Nat.reduceAdd, List.drop_succ_cons, List.drop_zero, List.drop_nil, List.take_succ_cons, List.take_zero, List.take_nil, List.cons_append, List.nil_append, zCF, ldSF, rInt, rOneS, rDeedQ] at hS
           refine then_n ?_
           refine wp_ret ?_
           refine then_r ?_
           refine block_r ?_
           refine then_r ?_
           have hS := hS.turn 1 rfl (r' := RS.hp (arH (some b) room (stepQO room q root t l d).q)) (fun _ _ _ _ h => by rw [hg]; exact h)
           have hS := hS.fresh 2 rfl
           have hS := hS.turn 2 rfl (r' := RS.hp (stepKQ (stepQO room q root t l d).mv b b)) (fun _ _ _ _ h => by rw [hg]; exact ⟨rfl, h⟩)
           refine ret_G2h (g := fun b => arV (some b)) (b0 := b) (l := fun u => [.int .i64 (stepQO room q root t l d).root, .is u, .sl rInt (stepQO room q root t l d).l]) (k2 := fun b2 => stepKQ (stepQO room q root t l d).mv b b2) hG hS rfl (.cell (n := 103) (ag := true) (sz := 4) rfl .is rfl (by kernel_rfl) (by kernel_rfl) (by kernel_rfl) (.tmp rfl .nil)) (.two (.aggU rfl (by rw [hg]; first | rfl | (simp only [hjl]; rfl))) (.bool (by first | rfl | (simp [hokf, tSize]; done) | (simp [hokf, tSize]; omega)))) rfl rfl
          ·skip
           have hw : ¬ (qOfM (refRoom d.val) [] l).2.1 = 2 := by simpa using hc13
           obtain ⟨e, r, hM, hk2, hel⟩ : ∃ (e : List Cell) (r : Int), (qOfM (refRoom d.val) [] l) = (e, 0, r) ∧ SeqOk e (allT (l.length + 1) (l.map kp)) r ∧ e.length = l.length := by rcases seq_of (room := refRoom d.val) (l := l) (by omega) with h | ⟨h, _⟩; exact h; rw [h] at hw; exact absurd rfl hw
           rw [hM] at hS
           obtain ⟨_, _, _, ho⟩ := hS.obGet 42 rfl
           have hI : ArOk (refRoom d.val) e := arH_ok ho
           clear ho
           have hokf : ((l.length : Int) ≤ refRoom d.val) ∧ e.length = l.length := ⟨by rw [← hel]; exact hI.le, hel⟩
           have hjl := True.intro
           have hg : (stepQO room q root t l d) = ⟨q, r, allT (l.length + 1) (l.map kp), l, some (refRoom d.val, e)⟩ := by rw [hp]; unfold stepMv; rw [if_neg hw, hM]
           refine wp_skip ?_
           refine then_n ?_
           refine wp_seq ?_
           refine region_any (by kernel_rfl) hS (by kernel_rfl)
             (cF rfl (o_load (ag := true) (sz := 2) 111 .is (by kernel_rfl) (by kernel_rfl) (by kernel_rfl) (by rfl)) r1 r1
             (cF rfl (o_move .t (by rfl)) r1 trivial
             (cF rfl (o_fieldAddr (off := 3) 101 .is (by kernel_rfl) (by rfl)) r1 r1
             (cF rfl (o_load (ag := false) (sz := 1) 101 .adr (by kernel_rfl) (by kernel_rfl) (by kernel_rfl) (by rfl)) r1 r1
             (cF rfl (o_build (r := [(0, .tmp 174), (1, .tmp 175), (2, .tmp 177)]) (zs := [.pointer none, .int .i64 0, .pointer none, .slice none 0 0]) (pl := [(0, 2), (2, 1), (3, 1)]) (by kernel_rfl) (by kernel_rfl) (.agg rfl .t (by kernel_rfl) (by kernel_rfl) (.one rfl .t one_is (by kernel_rfl) (.one rfl .t one_sl (by kernel_rfl) .nil))) (by rfl)) r3 trivial
             (cF rfl (o_move .t (by rfl)) r1 trivial
             (cF rfl (o_eql .t (.ci (by kernel_rfl))) r1 trivial
             (cF rfl (o_move .t (by rfl)) r1 trivial
             (Chain.cons (Cert.cond rfl rfl (fun h => o_fieldAddr (off := 3) 102 .is (by kernel_rfl) (by rfl))) r2 r1
             (Chain.cons (Cert.cond rfl rfl (fun h => o_load (ag := false) (sz := 1) 102 (.w h .adr) (by kernel_rfl) (by kernel_rfl) (by kernel_rfl) (by rfl))) r2 r1
             (Chain.cons (Cert.cond rfl rfl (fun h => o_callP (refRoom_c d.val) Try.func45 rfl (by kernel_rfl) (Args.one (.w h)))) r2 trivial
             (Chain.cons (Cert.cond rfl rfl (fun h => o_fieldAddr (off := 3) 101 .is (by kernel_rfl) (by rfl))) r2 r1
             (Chain.cons (Cert.cond rfl rfl (fun h => o_load (ag := false) (sz := 1) 101 (.w h .adr) (by kernel_rfl) (by kernel_rfl) (by kernel_rfl) (by rfl))) r2 r1
             (Chain.cons (Cert.cond rfl rfl (fun h => o_len_sl Try.underlying29 (.w h))) r2 trivial
             (Chain.cons (Cert.cond rfl rfl (fun h => o_geq (.w h) (.w h))) r3 trivial
             (cF rfl (o_and2 .t .t) r2 trivial
             (cF rfl (o_move .t (by rfl)) r1 trivial
             (Chain.cons (Cert.cond rfl rfl (fun h => o_move .t (by rfl))) r2 trivial
             (Chain.cons (Cert.condR rfl rfl (by rfl) (fun h => o_callG1 42 (aLen_c (some b2) (refRoom d.val) e) Try.func37 rfl (by kernel_rfl) (Args.one (.w h)))) r2 r1
             (Chain.cons (Cert.cond rfl rfl (fun h => o_fieldAddr (off := 3) 101 .is (by kernel_rfl) (by rfl))) r2 r1
             (Chain.cons (Cert.cond rfl rfl (fun h => o_load (ag := false) (sz := 1) 101 (.w h .adr) (by kernel_rfl) (by kernel_rfl) (by kernel_rfl) (by rfl))) r2 r1
             (Chain.cons (Cert.cond rfl rfl (fun h => o_len_sl Try.underlying29 (.w h))) r2 trivial
             (Chain.cons (Cert.cond rfl rfl (fun h => o_eql (.w h) (.w h))) r3 trivial
             (cF rfl (o_and2 .t .t) r2 trivial
             (cF rfl (o_storeA (sz := 4) 103 .is .t (by kernel_rfl) (by kernel_rfl) (by kernel_rfl)) r2 r1
             (cF rfl (o_assign .t (by rfl)) r1 trivial
             Chain.nil))))))))))))))))))))))))))
             (by kernel_rfl) (by rw [hB]; kernel_rfl) ?_
           clear hS; intro a w F hS
           obtain ⟨F, hS⟩ := hS.norm [(2, _), (4, _), (5, _)] [(0, _), (1, _), (42, _), (101, _), (103, _)] r3 r5
           try dsimp only [List.map, stCells, List.length_cons, List.length_nil, Nat.reduceAdd, List.drop_succ_cons, List.drop_zero, List.drop_nil, List.take_succ_cons, List.take_zero, List.take_nil, List.cons_append, List.nil_append, zCF, ldSF, rInt, rOneS, rDeedQ] at hS
           refine then_n ?_
           refine wp_ret ?_
           refine block_r ?_
           refine then_r ?_
           have hS := hS.turn 1 rfl (r' := RS.hp (arH (some b) room (stepQO room q root t l d).q)) (fun _ _ _ _ h => by rw [hg]; exact h)
           obtain ⟨F, hS⟩ := hS.rename 42 2 rfl rfl
           have hS := hS.turn 2 rfl (r' := RS.hp (stepKQ (stepQO room q root t l d).mv b b2)) (fun _ _ _ _ h => by rw [hg]; exact h)
           refine ret_G2h (g := fun b => arV (some b)) (b0 := b2) (l := fun u => [.int .i64 (stepQO room q root t l d).root, .is u, .sl rInt (stepQO room q root t l d).l]) (k2 := fun b2 => stepKQ (stepQO room q root t l d).mv b b2) hG hS rfl (.cell (n := 103) (ag := true) (sz := 4) rfl .is rfl (by kernel_rfl) (by kernel_rfl) (by kernel_rfl) (.tmp rfl .nil)) (.two (.aggU rfl (by rw [hg]; first | rfl | (simp only [hjl]; rfl))) (.bool (by first | rfl | (simp [hokf, tSize]; done) | (simp [hokf, tSize]; omega)))) rfl rfl
        ·exact Bool.noConfusion (hc9.symm.trans hc10)
       ·skip
        have hkf5 := of_decide_eq_false hc9
        refine region_seq hS (by kernel_rfl)
          (cF rfl (o_eql .t (.ci (by kernel_rfl))) r1 trivial
          (cF rfl (o_assign .t (by rfl)) r1 trivial
          Chain.nil))
          (by kernel_rfl) (by rw [hB]; kernel_rfl) ?_
        clear hS; intro a w F hS
        obtain ⟨F, hS⟩ := hS.norm [(2, _), (3, _), (4, _), (5, _), (128, _)] [(0, _), (1, _), (101, _), (102, _), (103, _)] r5 r5
        try dsimp only [rInt, rOneS, rDeedQ] at hS
        refine then_n ?_
        refine cond_b hS rfl (fun hc14 => ?_) (fun hc14 => ?_)
        ·skip
         have hkd : d.kind = 5 ∨ d.kind = 6 := by simp at hc14; omega
         have hp : (stepQO room q root t l d) = stepMv q root t l (refRoom d.val) := by unfold stepQO; rw [if_neg (by omega), if_neg (by omega), if_neg (by omega), if_pos hkd]
         refine wp_seq ?_
         have hS := hS.fresh 42 rfl
         refine region_seq hS (by kernel_rfl)
           (cF rfl (o_fieldAddr (off := 3) 102 .is (by kernel_rfl) (by rfl)) r1 r1
           (cF rfl (o_load (ag := false) (sz := 1) 102 .adr (by kernel_rfl) (by kernel_rfl) (by kernel_rfl) (by rfl)) r1 r1
           (cF rfl (o_callN 42 (aNew_c d.val (refRoom d.val) rfl) Try.func9 rfl (by kernel_rfl) (Args.one .t) PV.ptr_one) r1 r1
           (cF rfl (o_assign .t (by rfl)) r1 trivial
           Chain.nil))))
           (by kernel_rfl) (by rw [hB]; kernel_rfl) ?_
         clear hS; intro a w F hS
         replace hS := hS.sub
         obtain ⟨F, hS⟩ := hS.norm [(2, _), (3, _), (4, _), (5, _), (16, _)] [(0, _), (1, _), (42, _), (101, _), (102, _), (103, _)] r5 r6
         try dsimp only [RS.sub, SF.sub, CF.sub, csub, Anc.sub, List.map, List.drop_succ_cons, List.drop_zero, List.drop_nil, List.take_succ_cons, List.take_zero, List.take_nil, ldSF, rInt, rOneS, rDeedQ] at hS
         generalize Act.tau a 133 = v133 at hS
         obtain ⟨_, _, _, ho⟩ := hS.obGet 42 rfl
         obtain ⟨b2, rfl⟩ := arNamed_ptr ho
         clear ho
         replace hS := hS.turn 42 rfl (r' := RS.hp (arH (some b2) (refRoom d.val) [])) (fun _ _ _ _ h => arNamed_open h)
         obtain ⟨F, hS⟩ := hS.norm [(2, _), (3, _), (4, _), (5, _), (16, _)] [(0, _), (1, _), (42, _), (101, _), (102, _), (103, _)] r5 r6
         refine then_n ?_
         refine wp_seq ?_
         refine region_seq hS (by kernel_rfl)
           (cF rfl (o_fieldAddr (off := 0) 101 .is (by kernel_rfl) (by rfl)) r1 r1
           (cF rfl (o_load (ag := true) (sz := 2) 101 .adr (by kernel_rfl) (by kernel_rfl) (by kernel_rfl) (by rfl)) r1 r1
           (cF rfl (o_move .t (by rfl)) r1 trivial
           (cF rfl (o_callG2c 1 42 (sMove_c (some b) room q root t hk.rep (by omega) (some b2) (refRoom d.val) []) Try.func35 rfl (by kernel_rfl) rfl (Args.two (.pagg .t) .t)) r2 r2
           (cF rfl (o_move .t (by rfl)) r1 trivial
           (cF rfl (o_extract .t rfl) r1 trivial
           (cF rfl (o_extract .t rfl) r1 trivial
           (cF rfl (o_alloc (zs := [.pointer none, .int .i64 0]) 112 (by kernel_rfl)) trivial trivial
           (cF rfl (o_storeA (sz := 2) 112 .same (.conv .t .agg) (by kernel_rfl) (by kernel_rfl) (by kernel_rfl)) r2 r1
           (cF rfl (o_assign .t (by rfl)) r1 trivial
           Chain.nil))))))))))
           (by kernel_rfl) (by rw [hB]; kernel_rfl) ?_
         clear hS; intro a w F hS
         replace hS := hS.sub
         obtain ⟨F, hS⟩ := hS.norm [(2, _), (3, _), (4, _), (5, _), (16, _), (17, _), (18, _)] [(0, _), (1, _), (42, _), (101, _), (102, _), (103, _), (112, _)] r7 r7
         try dsimp only [RS.sub, SF.sub, CF.sub, csub, Anc.sub, List.map, stCells, List.length_cons, List.length_nil, Nat.reduceAdd, List.drop_succ_cons, List.drop_zero, List.drop_nil, List.take_succ_cons, List.take_zero, List.take_nil, List.cons_append, List.nil_append, zCF, ldSF, rInt, rOneS, rDeedQ] at hS
         generalize Act.tau a 17 = v17 at hS
         rw [hl] at hS
         refine then_n ?_
         refine wp_seq ?_
         refine wp_seq ?_
         refine region_seq hS (by kernel_rfl)
           (cF rfl (o_fieldAddr (off := 0) 102 .is (by kernel_rfl) (by rfl)) r1 r1
           (cF rfl (o_load (ag := false) (sz := 1) 102 .adr (by kernel_rfl) (by kernel_rfl) (by kernel_rfl) (by rfl)) r1 r1
           (cF rfl (o_eql .t (.ci (by kernel_rfl))) r1 trivial
           Chain.nil)))
           (by kernel_rfl) (by rw [hB]; kernel_rfl) ?_
         clear hS; intro a w F hS
         obtain ⟨F, hS⟩ := hS.norm [(2, _), (3, _), (4, _), (5, _), (16, _), (17, _), (18, _), (143, _)] [(0, _), (1, _), (42, _), (101, _), (102, _), (103, _), (112, _)] r8 r7
         try dsimp only [List.map, List.drop_succ_cons, List.drop_zero, List.drop_nil, List.take_succ_cons, List.take_zero, List.take_nil, ldSF, rInt, rOneS, rDeedQ] at hS
         refine then_n ?_
         refine cond_b hS rfl (fun hc15 => ?_) (fun hc15 => ?_)
         ·skip
          refine wp_seq ?_
          have hS := hS.fresh 43 rfl
          refine region_seq hS (by kernel_rfl)
            (cF rfl (o_fieldAddr (off := 3) 102 .is (by kernel_rfl) (by rfl)) r1 r1
            (cF rfl (o_load (ag := false) (sz := 1) 102 .adr (by kernel_rfl) (by kernel_rfl) (by kernel_rfl) (by rfl)) r1 r1
            (cF rfl (o_callN 43 (aNew_c d.val (refRoom d.val) rfl) Try.func9 rfl (by kernel_rfl) (Args.one .t) PV.ptr_one) r1 r1
            (cF rfl (o_assign .t (by rfl)) r1 trivial
            Chain.nil))))
            (by kernel_rfl) (by rw [hB]; kernel_rfl) ?_
          clear hS; intro a w F hS
          replace hS := hS.sub
          obtain ⟨F, hS⟩ := hS.norm [(2, _), (3, _), (4, _), (5, _), (16, _), (17, _), (18, _)] [(0, _), (1, _), (42, _), (43, _), (101, _), (102, _), (103, _), (112, _)] r7 r8
          try dsimp only [RS.sub, SF.sub, CF.sub, csub, Anc.sub, List.map, List.drop_succ_cons, List.drop_zero, List.drop_nil, List.take_succ_cons, List.take_zero, List.take_nil, ldSF, rInt, rOneS, rDeedQ] at hS
          generalize Act.tau a 146 = v146 at hS
          obtain ⟨_, _, _, ho⟩ := hS.obGet 43 rfl
          obtain ⟨b3, rfl⟩ := arNamed_ptr ho
          clear ho
          replace hS := hS.turn 43 rfl (r' := RS.hp (arH (some b3) (refRoom d.val) [])) (fun _ _ _ _ h => arNamed_open h)
          obtain ⟨F, hS⟩ := hS.norm [(2, _), (3, _), (4, _), (5, _), (16, _), (17, _), (18, _)] [(0, _), (1, _), (42, _), (43, _), (101, _), (102, _), (103, _), (112, _)] r7 r8
          refine then_n ?_
          refine region_seq hS (by kernel_rfl)
            (cF rfl (o_move .t (by rfl)) r1 trivial
            (cF rfl (o_fieldAddr (off := 3) 101 .is (by kernel_rfl) (by rfl)) r1 r1
            (cF rfl (o_load (ag := false) (sz := 1) 101 .adr (by kernel_rfl) (by kernel_rfl) (by kernel_rfl) (by rfl)) r1 r1
            (cF rfl (o_callG1 43 (sOf_c (some b3) (refRoom d.val) [] l) Try.func44 rfl (by kernel_rfl) (Args.two .t .t)) r2 r1
            (cF rfl (o_move .t (by rfl)) r1 trivial
            (cF rfl (o_extract .t rfl) r1 trivial
            (cF rfl (o_extract .t rfl) r1 trivial
            (cF rfl (o_storeA (sz := 2) 112 .is (.conv .t .agg) (by kernel_rfl) (by kernel_rfl) (by kernel_rfl)) r2 r1
            (cF rfl (o_assign .t (by rfl)) r1 trivial
            Chain.nil)))))))))
            (by kernel_rfl) (by rw [hB]; kernel_rfl) ?_
          clear hS; intro a w F hS
          obtain ⟨F, hS⟩ := hS.norm [(2, _), (3, _), (4, _), (5, _), (16, _), (17, _), (18, _)] [(0, _), (1, _), (42, _), (43, _), (101, _), (102, _), (103, _), (112, _)] r7 r8
          try dsimp only [List.map, stCells, List.length_cons, List.length_nil, Nat.reduceAdd, List.drop_succ_cons, List.drop_zero, List.drop_nil, List.take_succ_cons, List.take_zero, List.take_nil, List.cons_append, List.nil_append, zCF, ldSF, rInt, rOneS, rDeedQ] at hS
          refine then_n ?_
          refine wp_seq ?_
          refine wp_seq ?_
          refine region_seq hS (by kernel_rfl)
            (cF rfl (o_move .t (by rfl)) r1 trivial
            (cF rfl (o_eql .t (.ci (by kernel_rfl))) r1 trivial
            Chain.nil))
            (by kernel_rfl) (by rw [hB]; kernel_rfl) ?_
          clear hS; intro a w F hS
          obtain ⟨F, hS⟩ := hS.norm [(2, _), (3, _), (4, _), (5, _), (16, _), (17, _), (18, _), (155, _)] [(0, _), (1, _), (42, _), (43, _), (101, _), (102, _), (103, _), (112, _)] r8 r8
          try dsimp only [rInt, rOneS, rDeedQ] at hS
          refine then_n ?_
          refine cond_b hS rfl (fun hc16 => ?_) (fun hc16 => ?_)
          ·skip
           have hw : (qOfM (refRoom d.val) [] l).2.1 = 2 := by simpa using hc16
           have hM : (qOfM (refRoom d.val) [] l) = ([], 2, 0) ∧ refRoom d.val < l.length := by rcases seq_of (room := refRoom d.val) (l := l) (by omega) with ⟨e, r, hM, _⟩ | h; (rw [hM] at hw; simp at hw); exact h
           have hokf := hM.2
           have hjl := True.intro
           have hg : (stepQO room q root t l d) = ⟨q, root, t, l, none⟩ := by rw [hp]; exact if_pos hw
           rw [hM.1] at hS
           refine wp_seq ?_
           refine region_any (by kernel_rfl) hS (by kernel_rfl)
             (cF rfl (o_load (ag := true) (sz := 4) 101 .is (by kernel_rfl) (by kernel_rfl) (by kernel_rfl) (by rfl)) r1 r1
             (cF rfl (o_fieldAddr (off := 3) 102 .is (by kernel_rfl) (by rfl)) r1 r1
             (cF rfl (o_load (ag := false) (sz := 1) 102 .adr (by kernel_rfl) (by kernel_rfl) (by kernel_rfl) (by rfl)) r1 r1
             (cF rfl (o_callP (refRoom_c d.val) Try.func45 rfl (by kernel_rfl) (Args.one .t)) r1 trivial
             (cF rfl (o_fieldAddr (off := 3) 101 .is (by kernel_rfl) (by rfl)) r1 r1
             (cF rfl (o_load (ag := false) (sz := 1) 101 .adr (by kernel_rfl) (by kernel_rfl) (by kernel_rfl) (by rfl)) r1 r1
             (cF rfl (o_len_sl Try.underlying29 .t) r1 trivial
             (cF rfl (o_lss .t .t) r2 trivial
             (cF rfl (o_move .t (by rfl)) r1 trivial
             (Chain.cons (Cert.cond rfl rfl (fun h => o_move .t (by rfl))) r2 trivial
             (Chain.cons (Cert.condR rfl rfl (by rfl) (fun h => o_callG1 43 (aLen_c (some b3) (refRoom d.val) []) Try.func37 rfl (by kernel_rfl) (Args.one (.w h)))) r2 r1
             (Chain.cons (Cert.cond rfl rfl (fun h => o_eql (.w h) (.ci (by kernel_rfl)))) r2 trivial
             (cF rfl (o_and2 .t .t) r2 trivial
             (cF rfl (o_move .t (by rfl)) r1 trivial
             (Chain.cons (Cert.cond rfl rfl (fun h => o_load (ag := true) (sz := 2) 112 .is (by kernel_rfl) (by kernel_rfl) (by kernel_rfl) (by rfl))) r2 r1
             (Chain.cons (Cert.condR rfl rfl (by rfl) (fun h => o_callG1 43 (slen_c (some b3) (refRoom d.val) [] 0 .nil rfl) Try.func14 rfl (by kernel_rfl) (Args.one (.pagg (.w h))))) r2 r1
             (Chain.cons (Cert.cond rfl rfl (fun h => o_eql (.w h) (.ci (by kernel_rfl)))) r2 trivial
             (cF rfl (o_and2 .t .t) r2 trivial
             (cF rfl (o_storeA (sz := 4) 103 .is .t (by kernel_rfl) (by kernel_rfl) (by kernel_rfl)) r2 r1
             (cF rfl (o_assign .t (by rfl)) r1 trivial
             Chain.nil))))))))))))))))))))
             (by kernel_rfl) (by rw [hB]; kernel_rfl) ?_
           clear hS; intro a w F hS
           obtain ⟨F, hS⟩ := hS.norm [(2, _), (3, _), (4, _), (5, _), (16, _), (17, _), (18, _)] [(0, _), (1, _), (42, _), (43, _), (101, _), (102, _), (103, _), (112, _)] r7 r8
           try dsimp only [List.map, stCells, List.length_cons, List.length_nil, Nat.reduceAdd, List.drop_succ_cons, List.drop_zero, List.drop_nil, List.take_succ_cons, List.take_zero, List.take_nil, List.cons_append, List.nil_append, zCF, ldSF, rInt, rOneS, rDeedQ] at hS
           refine then_n ?_
           refine wp_ret ?_
           refine then_r ?_
           refine block_r ?_
           refine then_r ?_
           have hS := hS.turn 1 rfl (r' := RS.hp (arH (some b) room (stepQO room q root t l d).q)) (fun _ _ _ _ h => by rw [hg]; exact h)
           have hS := hS.fresh 2 rfl
           have hS := hS.turn 2 rfl (r' := RS.hp (stepKQ (stepQO room q root t l d).mv b b)) (fun _ _ _ _ h => by rw [hg]; exact ⟨rfl, h⟩)
           refine ret_G2h (g := fun b => arV (some b)) (b0 := b) (l := fun u => [.int .i64 (stepQO room q root t l d).root, .is u, .sl rInt (stepQO room q root t l d).l]) (k2 := fun b2 => stepKQ (stepQO room q root t l d).mv b b2) hG hS rfl (.cell (n := 103) (ag := true) (sz := 4) rfl .is rfl (by kernel_rfl) (by kernel_rfl) (by kernel_rfl) (.tmp rfl .nil)) (.two (.aggU rfl (by rw [hg]; first | rfl | (simp only [hjl]; rfl))) (.bool (by first | rfl | (simp [hokf, tSize]; done) | (simp [hokf, tSize]; omega)))) rfl rfl
          ·skip
           have hw : ¬ (qOfM (refRoom d.val) [] l).2.1 = 2 := by simpa using hc16
           obtain ⟨e, r, hM, hk2, hel⟩ : ∃ (e : List Cell) (r : Int), (qOfM (refRoom d.val) [] l) = (e, 0, r) ∧ SeqOk e (allT (l.length + 1) (l.map kp)) r ∧ e.length = l.length := by rcases seq_of (room := refRoom d.val) (l := l) (by omega) with h | ⟨h, _⟩; exact h; rw [h] at hw; exact absurd rfl hw
           rw [hM] at hS
           obtain ⟨_, _, _, ho⟩ := hS.obGet 43 rfl
           have hI : ArOk (refRoom d.val) e := arH_ok ho
           clear ho
           have hokf : ((l.length : Int) ≤ refRoom d.val) ∧ e.length = l.length := ⟨by rw [← hel]; exact hI.le, hel⟩
           have hjl := True.intro
           have hg : (stepQO room q root t l d) = ⟨q, r, allT (l.length + 1) (l.map kp), l, some (refRoom d.val, e)⟩ := by rw [hp]; unfold stepMv; rw [if_neg hw, hM]
           refine wp_skip ?_
           refine then_n ?_
           refine wp_seq ?_
           refine region_any (by kernel_rfl) hS (by kernel_rfl)
             (cF rfl (o_load (ag := true) (sz := 2) 112 .is (by kernel_rfl) (by kernel_rfl) (by kernel_rfl) (by rfl)) r1 r1
             (cF rfl (o_move .t (by rfl)) r1 trivial
             (cF rfl (o_fieldAddr (off := 3) 101 .is (by kernel_rfl) (by rfl)) r1 r1
             (cF rfl (o_load (ag := false) (sz := 1) 101 .adr (by kernel_rfl) (by kernel_rfl) (by kernel_rfl) (by rfl)) r1 r1
             (cF rfl (o_build (r := [(0, .tmp 174), (1, .tmp 175), (2, .tmp 177)]) (zs := [.pointer none, .int .i64 0, .pointer none, .slice none 0 0]) (pl := [(0, 2), (2, 1), (3, 1)]) (by kernel_rfl) (by kernel_rfl) (.agg rfl .t (by kernel_rfl) (by kernel_rfl) (.one rfl .t one_is (by kernel_rfl) (.one rfl .t one_sl (by kernel_rfl) .nil))) (by rfl)) r3 trivial
             (cF rfl (o_move .t (by rfl)) r1 trivial
             (cF rfl (o_eql .t (.ci (by kernel_rfl))) r1 trivial
             (cF rfl (o_move .t (by rfl)) r1 trivial
             (Chain.cons (Cert.cond rfl rfl (fun h => o_fieldAddr (off := 3) 102 .is (by kernel_rfl) (by rfl))) r2 r1
             (Chain.cons (Cert.cond rfl rfl (fun h => o_load (ag := false) (sz := 1) 102 (.w h .adr) (by kernel_rfl) (by kernel_rfl) (by kernel_rfl) (by rfl))) r2 r1
             (Chain.cons (Cert.cond rfl rfl (fun h => o_callP (refRoom_c d.val) Try.func45 rfl (by kernel_rfl) (Args.one (.w h)))) r2 trivial
             (Chain.cons (Cert.cond rfl rfl (fun h => o_fieldAddr (off := 3) 101 .is (by kernel_rfl) (by rfl))) r2 r1
             (Chain.cons (Cert.cond rfl rfl (fun h => o_load (ag := false) (sz := 1) 101 (.w h .adr) (by kernel_rfl) (by kernel_rfl) (by kernel_rfl) (by rfl))) r2 r1
             (Chain.cons (Cert.cond rfl rfl (fun h => o_len_sl Try.underlying29 (.w h))) r2 trivial
             (Chain.cons (Cert.cond rfl rfl (fun h => o_geq (.w h) (.w h))) r3 trivial
             (cF rfl (o_and2 .t .t) r2 trivial
             (cF rfl (o_move .t (by rfl)) r1 trivial
             (Chain.cons (Cert.cond rfl rfl (fun h => o_move .t (by rfl))) r2 trivial
             (Chain.cons (Cert.condR rfl rfl (by rfl) (fun h => o_callG1 43 (aLen_c (some b3) (refRoom d.val) e) Try.func37 rfl (by kernel_rfl) (Args.one (.w h)))) r2 r1
             (Chain.cons (Cert.cond rfl rfl (fun h => o_fieldAddr (off := 3) 101 .is (by kernel_rfl) (by rfl))) r2 r1
             (Chain.cons (Cert.cond rfl rfl (fun h => o_load (ag := false) (sz := 1) 101 (.w h .adr) (by kernel_rfl) (by kernel_rfl) (by kernel_rfl) (by rfl))) r2 r1
             (Chain.cons (Cert.cond rfl rfl (fun h => o_len_sl Try.underlying29 (.w h))) r2 trivial
             (Chain.cons (Cert.cond rfl rfl (fun h => o_eql (.w h) (.w h))) r3 trivial
             (cF rfl (o_and2 .t .t) r2 trivial
             (cF rfl (o_storeA (sz := 4) 103 .is .t (by kernel_rfl) (by kernel_rfl) (by kernel_rfl)) r2 r1
             (cF rfl (o_assign .t (by rfl)) r1 trivial
             Chain.nil))))))))))))))))))))))))))
             (by kernel_rfl) (by rw [hB]; kernel_rfl) ?_
           clear hS; intro a w F hS
           obtain ⟨F, hS⟩ := hS.norm [(2, _), (4, _), (5, _)] [(0, _), (1, _), (42, _), (43, _), (101, _), (103, _)] r3 r6
           try dsimp only [List.map, stCells, List.length_cons, List.length_nil, Nat.reduceAdd, List.drop_succ_cons, List.drop_zero, List.drop_nil, List.take_succ_cons, List.take_zero, List.take_nil, List.cons_append, List.nil_append, zCF, ldSF, rInt, rOneS, rDeedQ] at hS
           refine then_n ?_
           refine wp_ret ?_
           refine block_r ?_
           refine then_r ?_
           have hS := hS.turn 1 rfl (r' := RS.hp (arH (some b) room (stepQO room q root t l d).q)) (fun _ _ _ _ h => by rw [hg]; exact h)
           obtain ⟨F, hS⟩ := hS.rename 43 2 rfl rfl
           have hS := hS.turn 2 rfl (r' := RS.hp (stepKQ (stepQO room q root t l d).mv b b3)) (fun _ _ _ _ h => by rw [hg]; exact h)
           refine ret_G2h (g := fun b => arV (some b)) (b0 := b3) (l := fun u => [.int .i64 (stepQO room q root t l d).root, .is u, .sl rInt (stepQO room q root t l d).l]) (k2 := fun b2 => stepKQ (stepQO room q root t l d).mv b b2) hG hS rfl (.cell (n := 103) (ag := true) (sz := 4) rfl .is rfl (by kernel_rfl) (by kernel_rfl) (by kernel_rfl) (.tmp rfl .nil)) (.two (.aggU rfl (by rw [hg]; first | rfl | (simp only [hjl]; rfl))) (.bool (by first | rfl | (simp [hokf, tSize]; done) | (simp [hokf, tSize]; omega)))) rfl rfl
         ·skip
          refine wp_skip ?_
          refine then_n ?_
          refine wp_seq ?_
          refine wp_seq ?_
          refine region_seq hS (by kernel_rfl)
            (cF rfl (o_move .t (by rfl)) r1 trivial
            (cF rfl (o_eql .t (.ci (by kernel_rfl))) r1 trivial
            Chain.nil))
            (by kernel_rfl) (by rw [hB]; kernel_rfl) ?_
          clear hS; intro a w F hS
          obtain ⟨F, hS⟩ := hS.norm [(2, _), (3, _), (4, _), (5, _), (16, _), (17, _), (18, _), (155, _)] [(0, _), (1, _), (42, _), (101, _), (102, _), (103, _), (112, _)] r8 r7
          try dsimp only [rInt, rOneS, rDeedQ] at hS
          refine then_n ?_
          refine cond_b hS rfl (fun hc17 => ?_) (fun hc17 => ?_)
          ·skip
           have hw : (qOfM (refRoom d.val) [] l).2.1 = 2 := by simpa using hc17
           have hM : (qOfM (refRoom d.val) [] l) = ([], 2, 0) ∧ refRoom d.val < l.length := by rcases seq_of (room := refRoom d.val) (l := l) (by omega) with ⟨e, r, hM, _⟩ | h; (rw [hM] at hw; simp at hw); exact h
           have hokf := hM.2
           have hjl := True.intro
           have hg : (stepQO room q root t l d) = ⟨q, root, t, l, none⟩ := by rw [hp]; exact if_pos hw
           rw [hM.1] at hS
           refine wp_seq ?_
           refine region_any (by kernel_rfl) hS (by kernel_rfl)
             (cF rfl (o_load (ag := true) (sz := 4) 101 .is (by kernel_rfl) (by kernel_rfl) (by kernel_rfl) (by rfl)) r1 r1
             (cF rfl (o_fieldAddr (off := 3) 102 .is (by kernel_rfl) (by rfl)) r1 r1
             (cF rfl (o_load (ag := false) (sz := 1) 102 .adr (by kernel_rfl) (by kernel_rfl) (by kernel_rfl) (by rfl)) r1 r1
             (cF rfl (o_callP (refRoom_c d.val) Try.func45 rfl (by kernel_rfl) (Args.one .t)) r1 trivial
             (cF rfl (o_fieldAddr (off := 3) 101 .is (by kernel_rfl) (by rfl)) r1 r1
             (cF rfl (o_load (ag := false) (sz := 1) 101 .adr (by kernel_rfl) (by kernel_rfl) (by kernel_rfl) (by rfl)) r1 r1
             (cF rfl (o_len_sl Try.underlying29 .t) r1 trivial
             (cF rfl (o_lss .t .t) r2 trivial
             (cF rfl (o_move .t (by rfl)) r1 trivial
             (Chain.cons (Cert.cond rfl rfl (fun h => o_move .t (by rfl))) r2 trivial
             (Chain.cons (Cert.condR rfl rfl (by rfl) (fun h => o_callG1 42 (aLen_c (some b2) (refRoom d.val) []) Try.func37 rfl (by kernel_rfl) (Args.one (.w h)))) r2 r1
             (Chain.cons (Cert.cond rfl rfl (fun h => o_eql (.w h) (.ci (by kernel_rfl)))) r2 trivial
             (cF rfl (o_and2 .t .t) r2 trivial
             (cF rfl (o_move .t (by rfl)) r1 trivial
             (Chain.cons (Cert.cond rfl rfl (fun h => o_load (ag := true) (sz := 2) 112 .is (by kernel_rfl) (by kernel_rfl) (by kernel_rfl) (by rfl))) r2 r1
             (Chain.cons (Cert.condR rfl rfl (by rfl) (fun h => o_callG1 42 (slen_c (some b2) (refRoom d.val) [] 0 .nil rfl) Try.func14 rfl (by kernel_rfl) (Args.one (.pagg (.w h))))) r2 r1
             (Chain.cons (Cert.cond rfl rfl (fun h => o_eql (.w h) (.ci (by kernel_rfl)))) r2 trivial
             (cF rfl (o_and2 .t .t) r2 trivial
             (cF rfl (o_storeA (sz := 4) 103 .is .t (by kernel_rfl) (by kernel_rfl) (by kernel_rfl)) r2 r1
             (cF rfl (o_assign .t (by rfl)) r1 trivial
             Chain.nil))))))))))))))))))))
             (by kernel_rfl) (by rw [hB]; kernel_rfl) ?_
           clear hS; intro a w F hS
           obtain ⟨F, hS⟩ := hS.norm [(2, _), (3, _), (4, _), (5, _), (16, _), (17, _), (18, _)] [(0, _), (1, _), (42, _), (101, _), (102, _), (103, _), (112, _)] r7 r7
           try dsimp only [List.map, stCells, List.length_cons, List.length_nil, Nat.reduceAdd, List.drop_succ_cons, List.drop_zero, List.drop_nil, List.take_succ_cons, List.take_zero, List.take_nil, List.cons_append, List.nil_append, zCF, ldSF, rInt, rOneS, rDeedQ] at hS
           refine then_n ?_
           refine wp_ret ?_
           refine then_r ?_
           refine block_r ?_
           refine then_r ?_
           have hS := hS.turn 1 rfl (r' := RS.hp (arH (some b) room (stepQO room q root t l d).q)) (fun _ _ _ _ h => by rw [hg]; exact h)
           have hS := hS.fresh 2 rfl
           have hS := hS.turn 2 rfl (r' := RS.hp (stepKQ (stepQO room q root t l d).mv b b)) (fun _ _ _ _ h => by rw [hg]; exact ⟨rfl, h⟩)
           refine ret_G2h (g := fun b => arV (some b)) (b0 := b) (l := fun u => [.int .i64 (stepQO room q root t l d).root, .is u, .sl rInt (stepQO room q root t l d).l]) (k2 := fun b2 => stepKQ (stepQO room q root t l d).mv b b2) hG hS rfl (.cell (n := 103) (ag := true) (sz := 4) rfl .is rfl (by kernel_rfl) (by kernel_rfl) (by kernel_rfl) (.tmp rfl .nil)) (.two (.aggU rfl (by rw [hg]; first | rfl | (simp only [hjl]; rfl))) (.bool (by first | rfl | (simp [hokf, tSize]; done) | (simp [hokf, tSize]; omega)))) rfl rfl
          ·skip
           have hw : ¬ (qOfM (refRoom d.val) [] l).2.1 = 2 := by simpa using hc17
           obtain ⟨e, r, hM, hk2, hel⟩ : ∃ (e : List Cell) (r : Int), (qOfM (refRoom d.val) [] l) = (e, 0, r) ∧ SeqOk e (allT (l.length + 1) (l.map kp)) r ∧ e.length = l.length := by rcases seq_of (room := refRoom d.val) (l := l) (by omega) with h | ⟨h, _⟩; exact h; rw [h] at hw; exact absurd rfl hw
           rw [hM] at hS
           obtain ⟨_, _, _, ho⟩ := hS.obGet 42 rfl
           have hI : ArOk (refRoom d.val) e := arH_ok ho
           clear ho
           have hokf : ((l.length : Int) ≤ refRoom d.val) ∧ e.length = l.length := ⟨by rw [← hel]; exact hI.le, hel⟩
           have hjl := True.intro
           have hg : (stepQO room q root t l d) = ⟨q, r, allT (l.length + 1) (l.map kp), l, some (refRoom d.val, e)⟩ := by rw [hp]; unfold stepMv; rw [if_neg hw, hM]
           refine wp_skip ?_
           refine then_n ?_
           refine wp_seq ?_
           refine region_any (by kernel_rfl) hS (by kernel_rfl)
             (cF rfl (o_load (ag := true) (sz := 2) 112 .is (by kernel_rfl) (by kernel_rfl) (by kernel_rfl) (by rfl)) r1 r1
             (cF rfl (o_move .t (by rfl)) r1 trivial
             (cF rfl (o_fieldAddr (off := 3) 101 .is (by kernel_rfl) (by rfl)) r1 r1
             (cF rfl (o_load (ag := false) (sz := 1) 101 .adr (by kernel_rfl) (by kernel_rfl) (by kernel_rfl) (by rfl)) r1 r1
             (cF rfl (o_build (r := [(0, .tmp 174), (1, .tmp 175), (2, .tmp 177)]) (zs := [.pointer none, .int .i64 0, .pointer none, .slice none 0 0]) (pl := [(0, 2), (2, 1), (3, 1)]) (by kernel_rfl) (by kernel_rfl) (.agg rfl .t (by kernel_rfl) (by kernel_rfl) (.one rfl .t one_is (by kernel_rfl) (.one rfl .t one_sl (by kernel_rfl) .nil))) (by rfl)) r3 trivial
             (cF rfl (o_move .t (by rfl)) r1 trivial
             (cF rfl (o_eql .t (.ci (by kernel_rfl))) r1 trivial
             (cF rfl (o_move .t (by rfl)) r1 trivial
             (Chain.cons (Cert.cond rfl rfl (fun h => o_fieldAddr (off := 3) 102 .is (by kernel_rfl) (by rfl))) r2 r1
             (Chain.cons (Cert.cond rfl rfl (fun h => o_load (ag := false) (sz := 1) 102 (.w h .adr) (by kernel_rfl) (by kernel_rfl) (by kernel_rfl) (by rfl))) r2 r1
             (Chain.cons (Cert.cond rfl rfl (fun h => o_callP (refRoom_c d.val) Try.func45 rfl (by kernel_rfl) (Args.one (.w h)))) r2 trivial
             (Chain.cons (Cert.cond rfl rfl (fun h => o_fieldAddr (off := 3) 101 .is (by kernel_rfl) (by rfl))) r2 r1
             (Chain.cons (Cert.cond rfl rfl (fun h => o_load (ag := false) (sz := 1) 101 (.w h .adr) (by kernel_rfl) (by kernel_rfl) (by kernel_rfl) (by rfl))) r2 r1
             (Chain.cons (Cert.cond rfl rfl (fun h => o_len_sl Try.underlying29 (.w h))) r2 trivial
             (Chain.cons (Cert.cond rfl rfl (fun h => o_geq (.w h) (.w h))) r3 trivial
             (cF rfl (o_and2 .t .t) r2 trivial
             (cF rfl (o_move .t (by rfl)) r1 trivial
             (Chain.cons (Cert.cond rfl rfl (fun h => o_move .t (by rfl))) r2 trivial
             (Chain.cons (Cert.condR rfl rfl (by rfl) (fun h => o_callG1 42 (aLen_c (some b2) (refRoom d.val) e) Try.func37 rfl (by kernel_rfl) (Args.one (.w h)))) r2 r1
             (Chain.cons (Cert.cond rfl rfl (fun h => o_fieldAddr (off := 3) 101 .is (by kernel_rfl) (by rfl))) r2 r1
             (Chain.cons (Cert.cond rfl rfl (fun h => o_load (ag := false) (sz := 1) 101 (.w h .adr) (by kernel_rfl) (by kernel_rfl) (by kernel_rfl) (by rfl))) r2 r1
             (Chain.cons (Cert.cond rfl rfl (fun h => o_len_sl Try.underlying29 (.w h))) r2 trivial
             (Chain.cons (Cert.cond rfl rfl (fun h => o_eql (.w h) (.w h))) r3 trivial
             (cF rfl (o_and2 .t .t) r2 trivial
             (cF rfl (o_storeA (sz := 4) 103 .is .t (by kernel_rfl) (by kernel_rfl) (by kernel_rfl)) r2 r1
             (cF rfl (o_assign .t (by rfl)) r1 trivial
             Chain.nil))))))))))))))))))))))))))
             (by kernel_rfl) (by rw [hB]; kernel_rfl) ?_
           clear hS; intro a w F hS
           obtain ⟨F, hS⟩ := hS.norm [(2, _), (4, _), (5, _)] [(0, _), (1, _), (42, _), (101, _), (103, _)] r3 r5
           try dsimp only [List.map, stCells, List.length_cons, List.length_nil, Nat.reduceAdd, List.drop_succ_cons, List.drop_zero, List.drop_nil, List.take_succ_cons, List.take_zero, List.take_nil, List.cons_append, List.nil_append, zCF, ldSF, rInt, rOneS, rDeedQ] at hS
           refine then_n ?_
           refine wp_ret ?_
           refine block_r ?_
           refine then_r ?_
           have hS := hS.turn 1 rfl (r' := RS.hp (arH (some b) room (stepQO room q root t l d).q)) (fun _ _ _ _ h => by rw [hg]; exact h)
           obtain ⟨F, hS⟩ := hS.rename 42 2 rfl rfl
           have hS := hS.turn 2 rfl (r' := RS.hp (stepKQ (stepQO room q root t l d).mv b b2)) (fun _ _ _ _ h => by rw [hg]; exact h)
           refine ret_G2h (g := fun b => arV (some b)) (b0 := b2) (l := fun u => [.int .i64 (stepQO room q root t l d).root, .is u, .sl rInt (stepQO room q root t l d).l]) (k2 := fun b2 => stepKQ (stepQO room q root t l d).mv b b2) hG hS rfl (.cell (n := 103) (ag := true) (sz := 4) rfl .is rfl (by kernel_rfl) (by kernel_rfl) (by kernel_rfl) (.tmp rfl .nil)) (.two (.aggU rfl (by rw [hg]; first | rfl | (simp only [hjl]; rfl))) (.bool (by first | rfl | (simp [hokf, tSize]; done) | (simp [hokf, tSize]; omega)))) rfl rfl
        ·skip
         have hkf5 := of_decide_eq_false hc14
         refine wp_skip ?_
         refine block_n ?_
         refine then_n ?_
         refine wp_seq ?_
         have hokf := True.intro
         have hjl := True.intro
         have hg : (stepQO room q root t l d) = ⟨q, root, t, l, none⟩ := by unfold stepQO; rw [if_neg (by omega), if_neg (by omega), if_neg (by omega), if_neg (by omega)]
         refine region_seq hS (by kernel_rfl)
           (cF rfl (o_load (ag := true) (sz := 4) 101 .is (by kernel_rfl) (by kernel_rfl) (by kernel_rfl) (by rfl)) r1 r1
           (cF rfl (o_storeA (sz := 4) 103 .is .t (by kernel_rfl) (by kernel_rfl) (by kernel_rfl)) r2 r1
           (cF rfl (o_assign .cb (by rfl)) trivial trivial
           Chain.nil)))
           (by kernel_rfl) (by rw [hB]; kernel_rfl) ?_
         clear hS; intro a w F hS
         obtain ⟨F, hS⟩ := hS.norm [(4, _), (5, _)] [(0, _), (1, _), (103, _)] r2 r3
         try dsimp only [List.map, stCells, List.length_cons, List.length_nil, Nat.reduceAdd, List.drop_succ_cons, List.drop_zero, List.drop_nil, List.take_succ_cons, List.take_zero, List.take_nil, List.cons_append, List.nil_append, zCF, ldSF, rInt, rOneS, rDeedQ] at hS
         refine then_n ?_
         refine wp_ret ?_
         have hS := hS.turn 1 rfl (r' := RS.hp (arH (some b) room (stepQO room q root t l d).q)) (fun _ _ _ _ h => by rw [hg]; exact h)
         have hS := hS.fresh 2 rfl
         have hS := hS.turn 2 rfl (r' := RS.hp (stepKQ (stepQO room q root t l d).mv b b)) (fun _ _ _ _ h => by rw [hg]; exact ⟨rfl, h⟩)
         refine ret_G2h (g := fun b => arV (some b)) (b0 := b) (l := fun u => [.int .i64 (stepQO room q root t l d).root, .is u, .sl rInt (stepQO room q root t l d).l]) (k2 := fun b2 => stepKQ (stepQO room q root t l d).mv b b2) hG hS rfl (.cell (n := 103) (ag := true) (sz := 4) rfl .is rfl (by kernel_rfl) (by kernel_rfl) (by kernel_rfl) (.tmp rfl .nil)) (.two (.aggU rfl (by rw [hg]; first | rfl | (simp only [hjl]; rfl))) (.bool (by first | rfl | (simp [hokf, tSize]; done) | (simp [hokf, tSize]; omega)))) rfl rfl

end Go.Proofs.Ytdfpljecogijaaa
