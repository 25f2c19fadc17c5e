/- Sequences against the document: whatever is done. No condition beyond those that each theorem says. -/
import Derived.Test.YtdfpljecogijaaaSq8
import Derived.Test.YtdfpljecogijaaaAvH
namespace Go.Proofs.Ytdfpljecogijaaa
open Go Go.Gm
set_option linter.unusedVariables false
set_option linter.unusedSimpArgs false
set_option maxHeartbeats 4000000
set_option maxRecDepth 8000


def atSL (k : Int) (l : List Int) : Int := if 0 ≤ k ∧ k < l.length then Go.Gm.nth l k.toNat else 0
theorem sAtL_c (o : Option Nat) (room : Int) (q : List Cell) (root k : Int) (t : Tree) (l : List Int) (n : Int) (h : OneQ q root t l n) (hn : n ≤ 1000000) : FnG Try.prog 34 1 [.agg [.is (arV o), .int .i64 root], .int .i64 k] [arH o room q] (.tup [.int .i64 (atSL k l), .bool (decide (0 ≤ k ∧ k < (l.length : Int)))]) (fun _ => [arH o room q]) := by
  have := sAt_c o room q root k t h.1.rep (by have := h.2.2; omega)
  have hv := tVals_len t
  rw [h.2.1] at hv
  have e : atS k t = atSL k l := by unfold atS atSL; rw [h.2.1, ← hv]
  rwa [e, ← hv] at this
theorem sIdxL_c (o : Option Nat) (room : Int) (q : List Cell) (root v : Int) (t : Tree) (l : List Int) (n : Int) (h : OneQ q root t l n) (hn : n ≤ 1000000) : FnG Try.prog 36 1 [.agg [.is (arV o), .int .i64 root], .int .i64 v] [arH o room q] (.int .i64 (idxL v l)) (fun _ => [arH o room q]) := by
  have := sIndex_c o room q root v t h.1.rep (by have := h.2.2; omega)
  rwa [h.2.1] at this

theorem tells07_c (b : Nat) (room : Int) (q : List Cell) (root : Int) (t : Tree) (l : List Int) (d : DeedQ) (n : Int) (h1 : OneQ q root t l n) (hn : n ≤ 1000) (hqq : q.length ≤ 65536) : FnG Try.prog 13 1 [.agg [.is (arV (some b)), .int .i64 root, .is (arV (some b)), .sl rInt l], .agg (rDeedQ d)] [arH (some b) room q] (.bool true) (fun _ => [arH (some b) room q]) := by
  refine FnG.mk Try.func13 rfl Try.ntmps13 rfl (by kernel_rfl) ?_
  intro B F0 a w F hB hG hS
  obtain ⟨hk, hl, hs⟩ := id h1
  have hsz := tVals_len t
  rw [hl] at hsz
  refine wp_seq ?_
  refine region_seq hS (by kernel_rfl)
    (cF rfl (o_boxA 101 (.conv .t .agg) (by kernel_rfl)) r1 trivial
    (cF rfl (o_boxA 102 (.conv .t .agg) (by kernel_rfl)) r1 trivial
    (cF rfl (o_assign .cb (by rfl)) trivial trivial
    Chain.nil)))
    (by kernel_rfl) (by rw [hB]; kernel_rfl) ?_
  clear hS; intro a w F hS
  replace hS := hS.sub
  obtain ⟨F, hS⟩ := hS.norm [(2, _), (3, _), (4, _)] [(0, _), (1, _), (101, _), (102, _)] r3 r4
  try dsimp only [RS.sub, SF.sub, CF.sub, csub, Anc.sub, List.map, zCF, rInt, rOneS, rDeedQ] at hS
  generalize Act.tau a 2 = v2 at hS
  generalize Act.tau a 3 = v3 at hS
  refine then_n ?_
  refine wp_seq ?_
  refine region_seq hS (by kernel_rfl)
    (cF rfl (o_fieldAddr (off := 0) 101 .is (by kernel_rfl) (by rfl)) r1 r1
    (cF rfl (o_load (ag := true) (sz := 2) 101 .adr (by kernel_rfl) (by kernel_rfl) (by kernel_rfl) (by rfl)) r1 r1
    (cF rfl (o_fieldAddr (off := 2) 102 .is (by kernel_rfl) (by rfl)) r1 r1
    (cF rfl (o_load (ag := false) (sz := 1) 102 .adr (by kernel_rfl) (by kernel_rfl) (by kernel_rfl) (by rfl)) r1 r1
    (cF rfl (o_callG1 1 (sAtL_c (some b) room q root d.i t l n h1 (by omega)) Try.func34 rfl (by kernel_rfl) (Args.two (.pagg .t) .t)) r2 r1
    (cF rfl (o_move .t (by rfl)) r1 trivial
    (cF rfl (o_extract .t rfl) r1 trivial
    (cF rfl (o_extract .t rfl) r1 trivial
    (cF rfl (o_assign .t (by rfl)) r1 trivial
    (cF rfl (o_assign .t (by rfl)) r1 trivial
    Chain.nil))))))))))
    (by kernel_rfl) (by rw [hB]; kernel_rfl) ?_
  clear hS; intro a w F hS
  obtain ⟨F, hS⟩ := hS.norm [(2, _), (3, _), (4, _), (5, _), (6, _)] [(0, _), (1, _), (101, _), (102, _)] r5 r4
  try dsimp only [List.map, List.drop_succ_cons, List.drop_zero, List.drop_nil, List.take_succ_cons, List.take_zero, List.take_nil, ldSF, rInt, rOneS, rDeedQ] at hS
  refine then_n ?_
  refine wp_seq ?_
  refine region_seq hS (by kernel_rfl)
    (cF rfl (o_fieldAddr (off := 3) 101 .is (by kernel_rfl) (by rfl)) r1 r1
    (cF rfl (o_load (ag := false) (sz := 1) 101 .adr (by kernel_rfl) (by kernel_rfl) (by kernel_rfl) (by rfl)) r1 r1
    (cF rfl (o_fieldAddr (off := 2) 102 .is (by kernel_rfl) (by rfl)) r1 r1
    (cF rfl (o_load (ag := false) (sz := 1) 102 .adr (by kernel_rfl) (by kernel_rfl) (by kernel_rfl) (by rfl)) r1 r1
    (cF rfl (o_callP (there07_c l d.i) Try.func39 rfl (by kernel_rfl) (Args.two .t .t)) r2 trivial
    (cF rfl (o_assign .t (by rfl)) r1 trivial
    Chain.nil))))))
    (by kernel_rfl) (by rw [hB]; kernel_rfl) ?_
  clear hS; intro a w F hS
  obtain ⟨F, hS⟩ := hS.norm [(2, _), (3, _), (4, _), (5, _), (6, _), (7, _)] [(0, _), (1, _), (101, _), (102, _)] r6 r4
  try dsimp only [List.map, List.drop_succ_cons, List.drop_zero, List.drop_nil, List.take_succ_cons, List.take_zero, List.take_nil, ldSF, rInt, rOneS, rDeedQ] at hS
  refine then_n ?_
  refine wp_seq ?_
  refine wp_seq ?_
  refine region_seq hS (by kernel_rfl)
    (cF rfl (o_move .t (by rfl)) r1 trivial
    (cF rfl (o_move .t (by rfl)) r1 trivial
    (cF rfl (o_neqB Try.underlying4 .t .t) r2 trivial
    (cF rfl (o_move .t (by rfl)) r1 trivial
    (Chain.cons (Cert.cond rfl rfl (fun h => o_move .t (by rfl))) r2 trivial
    (Chain.cons (Cert.cond rfl rfl (fun h => o_move (.w h) (by rfl))) r2 trivial
    (Chain.cons (Cert.cond2 rfl rfl (fun h => o_move .t (by rfl))) r2 trivial
    (Chain.cons (Cert.cond2 rfl rfl (fun h => o_fieldAddr (off := 3) 101 .is (by kernel_rfl) (by rfl))) r2 r1
    (Chain.cons (Cert.cond2 rfl rfl (fun h => o_load (ag := false) (sz := 1) 101 (.w h .adr) (by kernel_rfl) (by kernel_rfl) (by kernel_rfl) (by rfl))) r2 r1
    (Chain.cons (Cert.cond2 rfl rfl (fun h => o_fieldAddr (off := 2) 102 .is (by kernel_rfl) (by rfl))) r2 r1
    (Chain.cons (Cert.cond2 rfl rfl (fun h => o_load (ag := false) (sz := 1) 102 (.w h .adr) (by kernel_rfl) (by kernel_rfl) (by kernel_rfl) (by rfl))) r2 r1
    (Chain.cons (Cert.cond2 rfl rfl (fun h => o_indexAddr_sl (sz := 1) (.mk Try.underlying29 (by kernel_rfl)) (by intro x; rfl) (.w h) (.w h) (by simp at h; omega) (by simp at h; omega))) r3 trivial
    (Chain.cons (Cert.cond2 rfl rfl (fun h => o_load_ref (ag := false) (sz := 1) (.w h) (by kernel_rfl) (by kernel_rfl) (by kernel_rfl))) r2 trivial
    (Chain.cons (Cert.cond2 rfl rfl (fun h => o_neq (.w h) (.w h))) r3 trivial
    (Chain.cons (Cert.cond rfl rfl (fun h => o_and2 (.w h) (.wc h))) r3 trivial
    (cF rfl (o_or2 .t .t) r2 trivial
    (cF rfl (o_move .t (by rfl)) r1 trivial
    (Chain.cons (Cert.cond rfl rfl (fun h => o_move .t (by rfl))) r2 trivial
    (Chain.cons (Cert.cond rfl rfl (fun h => o_not (.w h))) r2 trivial
    (Chain.cons (Cert.cond rfl rfl (fun h => o_move (.w h) (by rfl))) r2 trivial
    (Chain.cons (Cert.cond2 rfl rfl (fun h => o_move .t (by rfl))) r2 trivial
    (Chain.cons (Cert.cond2 rfl rfl (fun h => o_neq (.w h) (.ci (by kernel_rfl)))) r2 trivial
    (Chain.cons (Cert.cond rfl rfl (fun h => o_and2 (.w h) (.wc h))) r3 trivial
    (cF rfl (o_or2 .t .t) r2 trivial
    Chain.nil))))))))))))))))))))))))
    (by kernel_rfl) (by rw [hB]; kernel_rfl) ?_
  clear hS; intro a w F hS
  obtain ⟨F, hS⟩ := hS.norm [(2, _), (3, _), (4, _), (44, _)] [(0, _), (1, _), (101, _), (102, _)] r4 r4
  try dsimp only [List.map, List.drop_succ_cons, List.drop_zero, List.drop_nil, List.take_succ_cons, List.take_zero, List.take_nil, ldSF, rInt, rOneS, rDeedQ] at hS
  try simp only [Int.toNat_natCast] at hS
  refine then_n ?_
  refine cond_b hS rfl (fun hc0 => ?_) (fun hc0 => ?_)
  ·skip
   by_cases hb : 0 ≤ d.i ∧ d.i < (l.length : Int)
   ·simp [atSL, hb] at hc0
   ·have e0 : atSL d.i l = 0 := if_neg hb
    rw [e0, decide_eq_false hb] at hc0; simp at hc0
  ·skip
   refine wp_skip ?_
   refine then_n ?_
   refine wp_seq ?_
   refine region_any (by kernel_rfl) hS (by kernel_rfl)
     (cF rfl (o_fieldAddr (off := 0) 101 .is (by kernel_rfl) (by rfl)) r1 r1
     (cF rfl (o_load (ag := true) (sz := 2) 101 .adr (by kernel_rfl) (by kernel_rfl) (by kernel_rfl) (by rfl)) r1 r1
     (cF rfl (o_fieldAddr (off := 3) 102 .is (by kernel_rfl) (by rfl)) r1 r1
     (cF rfl (o_load (ag := false) (sz := 1) 102 .adr (by kernel_rfl) (by kernel_rfl) (by kernel_rfl) (by rfl)) r1 r1
     (cF rfl (o_callG1 1 (sIdxL_c (some b) room q root d.val t l n h1 (by omega)) Try.func36 rfl (by kernel_rfl) (Args.two (.pagg .t) .t)) r2 r1
     (cF rfl (o_fieldAddr (off := 3) 101 .is (by kernel_rfl) (by rfl)) r1 r1
     (cF rfl (o_load (ag := false) (sz := 1) 101 .adr (by kernel_rfl) (by kernel_rfl) (by kernel_rfl) (by rfl)) r1 r1
     (cF rfl (o_fieldAddr (off := 3) 102 .is (by kernel_rfl) (by rfl)) r1 r1
     (cF rfl (o_load (ag := false) (sz := 1) 102 .adr (by kernel_rfl) (by kernel_rfl) (by kernel_rfl) (by rfl)) r1 r1
     (cF rfl (o_callP (index07_c l d.val) Try.func46 rfl (by kernel_rfl) (Args.two .t .t)) r2 trivial
     (cF rfl (o_eql .t .t) r2 trivial
     (cF rfl (o_move .t (by rfl)) r1 trivial
     (Chain.cons (Cert.cond rfl rfl (fun h => o_fieldAddr (off := 0) 101 .is (by kernel_rfl) (by rfl))) r2 r1
     (Chain.cons (Cert.cond rfl rfl (fun h => o_load (ag := true) (sz := 2) 101 (.w h .adr) (by kernel_rfl) (by kernel_rfl) (by kernel_rfl) (by rfl))) r2 r1
     (Chain.cons (Cert.condR rfl rfl (by rfl) (fun h => o_callG1 1 (slen_c (some b) room q root t h1.1.rep) Try.func14 rfl (by kernel_rfl) (Args.one (.pagg (.w h))))) r2 r1
     (Chain.cons (Cert.cond rfl rfl (fun h => o_fieldAddr (off := 3) 101 .is (by kernel_rfl) (by rfl))) r2 r1
     (Chain.cons (Cert.cond rfl rfl (fun h => o_load (ag := false) (sz := 1) 101 (.w h .adr) (by kernel_rfl) (by kernel_rfl) (by kernel_rfl) (by rfl))) r2 r1
     (Chain.cons (Cert.cond rfl rfl (fun h => o_len_sl Try.underlying29 (.w h))) r2 trivial
     (Chain.cons (Cert.cond rfl rfl (fun h => o_eql (.w h) (.w h))) r3 trivial
     (cF rfl (o_and2 .t .t) r2 trivial
     (cF rfl (o_move .t (by rfl)) r1 trivial
     (Chain.cons (Cert.cond rfl rfl (fun h => o_fieldAddr (off := 0) 101 .is (by kernel_rfl) (by rfl))) r2 r1
     (Chain.cons (Cert.cond rfl rfl (fun h => o_load (ag := true) (sz := 2) 101 (.w h .adr) (by kernel_rfl) (by kernel_rfl) (by kernel_rfl) (by rfl))) r2 r1
     (Chain.cons (Cert.condR rfl rfl (by rfl) (fun h => o_callG1 1 (sList_c (some b) room q root t h1.1.rep (by omega)) Try.func18 rfl (by kernel_rfl) (Args.one (.pagg (.w h))))) r2 r1
     (Chain.cons (Cert.cond rfl rfl (fun h => o_fieldAddr (off := 3) 101 .is (by kernel_rfl) (by rfl))) r2 r1
     (Chain.cons (Cert.cond rfl rfl (fun h => o_load (ag := false) (sz := 1) 101 (.w h .adr) (by kernel_rfl) (by kernel_rfl) (by kernel_rfl) (by rfl))) r2 r1
     (Chain.cons (Cert.cond rfl rfl (fun h => o_callP (sameInts_c _ _) Try.func17 rfl (by kernel_rfl) (Args.two (.w h) (.w h)))) r3 trivial
     (cF rfl (o_and2 .t .t) r2 trivial
     (cF rfl (o_assign .t (by rfl)) r1 trivial
     Chain.nil)))))))))))))))))))))))))))))
     (by kernel_rfl) (by rw [hB]; kernel_rfl) ?_
   clear hS; intro a w F hS
   obtain ⟨F, hS⟩ := hS.norm [(4, _)] [(0, _), (1, _)] r1 r2
   try dsimp only [List.map, List.drop_succ_cons, List.drop_zero, List.drop_nil, List.take_succ_cons, List.take_zero, List.take_nil, ldSF, rInt, rOneS, rDeedQ] at hS
   refine then_n ?_
   refine wp_ret ?_
   refine ret_G1 hG hS rfl (.tmp rfl .nil) (.one (.bool (by first | rfl | simp [hsz, hl]))) rfl

def OnesQOk (L : List (Nat × Int × List Cell)) (n : Int) (all : List OneS) : Prop := ∀ e ∈ all, ∃ rm q, L[e.j]? = some (e.b, rm, q) ∧ OneQ q e.root e.t e.l n
theorem OnesQOk.le {L L2 : List (Nat × Int × List Cell)} {n m : Int} {all : List OneS} (h : OnesQOk L n all) (hl : FamLe L L2) (hm : n ≤ m) : OnesQOk L2 m all := fun e he => by
  obtain ⟨rm, q, h1, h2⟩ := h e he
  obtain ⟨x, hx⟩ := hl _ _ _ _ h1
  exact ⟨rm, q ++ x, hx, h2.app hm⟩
theorem OnesQOk.add {L : List (Nat × Int × List Cell)} {n : Int} {all : List OneS} {e : OneS} {rm : Int} {q : List Cell} (h : OnesQOk L n all) (h1 : L[e.j]? = some (e.b, rm, q)) (h2 : OneQ q e.root e.t e.l n) : OnesQOk L n (all ++ [e]) := fun x hx => by
  rcases List.mem_append.1 hx with hx | hx
  · exact h x hx
  · rw [List.mem_singleton.1 hx]; exact ⟨rm, q, h1, h2⟩
section
variable {B : Base} {E : En} {a : Act} {w : World} {F : Fp}
theorem famStepQ {L : List (Nat × Int × List Cell)} {b b2 j : Nat} {room : Int} {q q' : List Cell} {mv : Option (Int × List Cell)} {OKf : List Cell → Prop} (hS : Sat B E a w F) (h40 : Go.Gm.look E.r 40 = some (famS famH (L.eraseIdx j))) (h41 : Go.Gm.look E.r 41 = some (RS.hp (arH (some b) room q'))) (h42 : Go.Gm.look E.r 42 = some (RS.hp (stepKQ mv b b2)))
    (hj : L[j]? = some (b, room, q)) (ho : (∃ e, q' = q ++ e) ∧ FamO q' OKf mv) : ∃ F' rm2 q2 L2 j2, Sat B ⟨E.s, (41, RS.hp (arH (some b2) rm2 q2)) :: (40, famS famH (L2.eraseIdx j2)) :: (42, RS.hp (HP.star [])) :: E.r⟩ a w F' ∧ L2[j2]? = some (b2, rm2, q2) ∧ OKf q2 ∧ FamLe L L2 ∧ (q2.length : Int) ≤ rm2 ∧ rm2 ≤ 65536 := by
  obtain ⟨⟨e, he⟩, hm⟩ := ho
  have hjl := (List.getElem?_eq_some_iff.1 hj).1
  have hle : FamLe L (L.set j (b, room, q')) := fun i b' r' q' hi => by
    by_cases hij : j = i
    · subst hij
      rw [hj] at hi
      simp only [Option.some.injEq, Prod.mk.injEq] at hi
      obtain ⟨rfl, rfl, rfl⟩ := hi
      exact ⟨e, by rw [List.getElem?_set_self hjl, he]⟩
    · exact ⟨[], by rw [List.getElem?_set_ne hij, hi, List.append_nil]⟩
  cases hmv : mv with
  | none =>
    rw [hmv] at hm
    have h42' : Go.Gm.look E.r 42 = some (RS.hp (HP.and (b2 = b) (HP.star []))) := by rw [h42]; unfold stepKQ; rw [hmv]
    obtain ⟨rfl, hS1⟩ := hS.open_and 42 h42'
    have hI : ArOk room q' := arH_ok (hS.r 41 _ h41)
    obtain ⟨F', hS2⟩ : ∃ F', Sat B ⟨E.s, (41, RS.hp (arH (some b2) room q')) :: (40, famS famH ((L.set j (b2, room, q')).eraseIdx j)) :: (42, RS.hp (HP.star [])) :: E.r⟩ a w F' := by
      rw [List.eraseIdx_set_eq]
      exact ⟨F, hS1.congr (fun _ => rfl) (fun k => by
        simp only [look_cons]
        by_cases e1 : 41 = k
        · subst e1; rw [if_pos rfl, if_neg (by omega)]; exact h41.symm
        · by_cases e2 : 40 = k
          · subst e2; rw [if_neg e1, if_pos rfl, if_neg (by omega)]; exact h40.symm
          · rw [if_neg e1, if_neg e2])⟩
    exact ⟨F', room, q', _, j, hS2, List.getElem?_set_self hjl, hm, hle, hI.le, hI.hi⟩
  | some x =>
    obtain ⟨rm, q2⟩ := x
    rw [hmv] at hm
    have h42' : Go.Gm.look E.r 42 = some (RS.hp (arH (some b2) rm q2)) := by rw [h42]; unfold stepKQ; rw [hmv]
    have hI : ArOk rm q2 := arH_ok (hS.r 42 _ h42')
    obtain ⟨F1, hS1⟩ := hS.putAt famH (L := L) (x := (b, room, q')) 40 41 j hjl h40 h41 rfl
    obtain ⟨F2, hS2⟩ := hS1.push 41 42 (by rfl) (by simp only [look_cons]; rw [if_neg (by omega), if_neg (by omega)]; exact h42') rfl rfl
    have hS3 := hS2.turn 41 (by rw [look_cons, if_pos rfl]) (r' := RS.hp (arH (some b2) rm q2)) (fun τ w f y h => by
      obtain ⟨f1, f2, k1, k2, k3, k4, k5⟩ := h
      have e : f1 = f := by
        funext x
        exact propext ⟨fun h => (k1 x).2 (.inl h), fun h => ((k1 x).1 h).elim id (fun h => absurd h (k5 x))⟩
      subst e; exact k4)
    refine ⟨F2, rm, q2, L.set j (b, room, q') ++ [(b2, rm, q2)], (L.set j (b, room, q')).length, ?_, by simp, hm, fun i b' r' q' hi => ?_, hI.le, hI.hi⟩
    · rw [eraseIdx_last]
      refine hS3.congr (fun _ => rfl) (fun k => ?_)
      simp only [look_cons]
      by_cases e1 : 41 = k
      · subst e1; rw [if_pos rfl, if_pos rfl]
      · by_cases e2 : 40 = k
        · subst e2; rw [if_neg e1, if_pos rfl, if_neg e1, if_neg (by omega), if_neg (by omega), if_pos rfl]
        · by_cases e3 : 42 = k
          · subst e3; rw [if_neg e1, if_neg e2, if_pos rfl, if_neg e1, if_neg (by omega), if_pos rfl]
          · simp only [if_neg e1, if_neg e2, if_neg e3]
    · obtain ⟨x, hx⟩ := hle i b' r' q' hi
      exact ⟨x, by rw [List.getElem?_append_left (List.getElem?_eq_some_iff.1 hx).1]; exact hx⟩
end

theorem seqPlays_c (room : Int) (l : List DeedQ) : FnP Try.prog 3 [.int .i64 room, .sl rDeedQ l] (.bool true) := by
  refine FnP.mk Try.func3 rfl Try.ntmps3 rfl ?_
  intro B a w F hB hfr hS
  have hll := Sat.lenSl hS (i := 1) rfl
  refine wp_seq ?_
  refine region_seq hS (by kernel_rfl)
    (cF rfl (o_assign .cb (by rfl)) trivial trivial
    Chain.nil)
    (by kernel_rfl) (by rw [hB]; kernel_rfl) ?_
  clear hS; intro a w F hS
  obtain ⟨F, hS⟩ := hS.norm [(0, _), (1, _), (4, _)] [(0, _)] r3 r1
  try dsimp only [rInt, rOneS, rDeedQ] at hS
  refine then_n ?_
  refine wp_seq ?_
  refine wp_seq ?_
  refine region_seq hS (by kernel_rfl)
    (cF rfl (o_move .t (by rfl)) r1 trivial
    (cF rfl (o_len_sl Try.underlying22 .t) r1 trivial
    (cF rfl (o_gtr .t (.ci (by kernel_rfl))) r1 trivial
    Chain.nil)))
    (by kernel_rfl) (by rw [hB]; kernel_rfl) ?_
  clear hS; intro a w F hS
  obtain ⟨F, hS⟩ := hS.norm [(0, _), (1, _), (4, _), (13, _)] [(0, _)] r4 r1
  try dsimp only [rInt, rOneS, rDeedQ] at hS
  refine then_n ?_
  refine cond_b hS rfl (fun hc0 => ?_) (fun hc0 => ?_)
  ·skip
   refine wp_seq ?_
   refine region_seq hS (by kernel_rfl)
     (cF rfl (o_callP (lives07_c) Try.func8 rfl (by kernel_rfl) Args.nil) trivial trivial
     (cF rfl (o_assign .t (by rfl)) r1 trivial
     Chain.nil))
     (by kernel_rfl) (by rw [hB]; kernel_rfl) ?_
   clear hS; intro a w F hS
   obtain ⟨F, hS⟩ := hS.norm [(0, _), (1, _), (4, _)] [(0, _)] r3 r1
   try dsimp only [rInt, rOneS, rDeedQ] at hS
   refine then_n ?_
   refine wp_ret ?_
   refine then_r ?_
   refine ret_P hfr hS rfl (.tmp rfl .nil) (.one (.bool rfl))
  ·skip
   have hl60 : l.length ≤ 60 := by simp at hc0; omega
   refine wp_skip ?_
   refine then_n ?_
   refine wp_seq ?_
   replace hS := hS.fresh 101 rfl
   refine region_seq hS (by kernel_rfl)
     (cF rfl (o_move .t (by rfl)) r1 trivial
     (cF rfl (o_callN 101 (aNew_c room (refRoom room) rfl) Try.func9 rfl (by kernel_rfl) (Args.one .t) PV.ptr_one) r1 r1
     (cF rfl (o_assign .t (by rfl)) r1 trivial
     Chain.nil)))
     (by kernel_rfl) (by rw [hB]; kernel_rfl) ?_
   clear hS; intro a w F hS
   replace hS := hS.sub
   obtain ⟨F, hS⟩ := hS.norm [(1, _), (4, _), (5, _)] [(0, _), (101, _)] r3 r2
   try dsimp only [RS.sub, SF.sub, CF.sub, csub, Anc.sub, List.map, rInt, rOneS, rDeedQ] at hS
   generalize Act.tau a 16 = v16 at hS
   obtain ⟨_, _, _, ho⟩ := hS.obGet 101 rfl
   obtain ⟨b, rfl⟩ := arNamed_ptr ho
   clear ho
   replace hS := hS.turn 101 rfl (r' := RS.hp (arH (some b) (refRoom room) [])) (fun _ _ _ _ h => arNamed_open h)
   obtain ⟨F, hS⟩ := hS.norm [(1, _), (4, _), (5, _)] [(0, _), (101, _)] r3 r2
   replace hS := hS.fresh 40 rfl
   obtain ⟨F, hS⟩ := hS.push 40 101 rfl rfl rfl (by kernel_rfl)
   replace hS := hS.turn 40 rfl (r' := famS famH [(b, refRoom room, [])]) (fun _ _ _ _ h => h)
   obtain ⟨F, hS⟩ := hS.norm [(1, _), (4, _), (5, _)] [(0, _), (40, _)] r3 r2
   refine then_n ?_
   refine wp_seq ?_
   refine wp_seq ?_
   refine region_seq hS (by kernel_rfl)
     (cF rfl (o_move .t (by rfl)) r1 trivial
     (cF rfl (o_nil_eql _ Try.underlying24 rfl .t) r1 trivial
     Chain.nil))
     (by kernel_rfl) (by rw [hB]; kernel_rfl) ?_
   clear hS; intro a w F hS
   obtain ⟨F, hS⟩ := hS.norm [(1, _), (4, _), (5, _), (18, _)] [(0, _), (40, _)] r4 r2
   try dsimp only [rInt, rOneS, rDeedQ] at hS
   refine then_n ?_
   refine cond_b hS rfl (fun hc1 => ?_) (fun hc1 => ?_)
   ·skip
    simp at hc1
   ·skip
    refine wp_skip ?_
    refine then_n ?_
    refine wp_seq ?_
    refine region_seq hS (by kernel_rfl)
      (cF rfl (o_move .t (by rfl)) r1 trivial
      (cF rfl (o_callP (snew_c (some b)) Try.func10 rfl (by kernel_rfl) (Args.one .t)) r1 trivial
      (cF rfl (o_move .t (by rfl)) r1 trivial
      (cF rfl (o_build (r := [(0, .tmp 20), (1, .tmp 21), (2, _)]) (zs := [.pointer none, .int .i64 0, .pointer none, .slice none 0 0]) (pl := [(0, 2), (2, 1), (3, 1)]) (by kernel_rfl) (by kernel_rfl) (.agg rfl (.conv .t .agg) (by kernel_rfl) (by kernel_rfl) (.one rfl .t one_is (by kernel_rfl) (.one rfl (.conv (.c rfl) (.nilSl (R := rInt))) one_sl (by kernel_rfl) .nil))) (by rfl)) r2 trivial
      (cF rfl (o_buildRow (R := rOneS) (l := [⟨b, 0, 0, .nil, []⟩]) (sz := 4) (zs := [.pointer none, .int .i64 0, .pointer none, .slice none 0 0]) (r := [(0, .tmp 22)]) 102 Try.underlying32 (by kernel_rfl) (by kernel_rfl) (by kernel_rfl) (by kernel_rfl) rfl rfl (.agg rfl .t (by kernel_rfl) (by kernel_rfl) .nil) rfl rfl (by intro x; rfl)) r1 trivial
      (cF rfl (o_assign .t (by rfl)) r1 trivial
      Chain.nil))))))
      (by kernel_rfl) (by rw [hB]; kernel_rfl) ?_
    clear hS; intro a w F hS
    replace hS := hS.sub
    obtain ⟨F, hS⟩ := hS.norm [(1, _), (4, _), (6, _)] [(0, _), (40, _), (102, _)] r3 r3
    try dsimp only [RS.sub, SF.sub, CF.sub, csub, Anc.sub, List.map, stCells, List.length_cons, List.length_nil, Nat.reduceAdd, List.drop_succ_cons, List.drop_zero, List.drop_nil, List.take_succ_cons, List.take_zero, List.take_nil, List.cons_append, List.nil_append, zCF, rInt, rOneS, rDeedQ] at hS
    generalize Act.tau a 23 = v23 at hS
    refine then_n ?_
    refine wp_seq ?_
    refine wp_seq ?_
    refine region_seq hS (by kernel_rfl)
      (cF rfl (o_move .t (by rfl)) r1 trivial
      (cF rfl (o_len_sl Try.underlying22 .t) r1 trivial
      (cF rfl (o_move (.ci (by kernel_rfl)) (by rfl)) trivial trivial
      Chain.nil)))
      (by kernel_rfl) (by rw [hB]; kernel_rfl) ?_
    clear hS; intro a w F hS
    obtain ⟨F, hS⟩ := hS.norm [(4, _), (6, _), (24, _), (25, _), (26, _)] [(0, _), (40, _), (102, _)] r5 r3
    try dsimp only [rInt, rOneS, rDeedQ] at hS
    refine then_n ?_
    refine wp_block ?_
    refine loop_keep (σ := (Nat) × (List (Nat × Int × List Cell)) × (Value) × (List OneS)) [4, 24, 25] [0] (fun s => [(26, .pv (.int .i64 (s.1 : Int))), (6, .pv (.is s.2.2.1))]) (fun s => [(40, famS famH s.2.1), (102, .ob (.val s.2.2.1) (rowH 31 4 rOneS s.2.2.2))]) (fun s => s.1 ≤ l.length ∧ (s.2.2.2.length = s.1 + 1 ∧ OnesQOk s.2.1 s.1 s.2.2.2)) (fun s => l.length - s.1) ((0), ([(b, refRoom room, [])]), (v23), ([⟨b, 0, 0, .nil, []⟩])) hS ⟨rfl, rfl, rfl, rfl, rfl, trivial⟩ ⟨rfl, rfl, rfl, trivial⟩ ⟨Nat.zero_le _, ⟨rfl, fun e he => by rw [List.mem_singleton.1 he]; exact ⟨_, [], rfl, SeqOk.nil _, rfl, Int.le_refl 0⟩⟩⟩ ?_
    clear hS; intro s a w F hC hS
    obtain ⟨i, L, av, all⟩ := s
    try dsimp only at hC
    obtain ⟨F, hS⟩ := hS.norm [(4, _), (6, _), (24, _), (25, _), (26, _)] [(0, _), (40, _), (102, _)] r5 r3
    try dsimp only at hS
    obtain ⟨hi, hq⟩ := hC
    obtain ⟨hal, hall⟩ := hq
    refine wp_seq ?_
    refine region_seq hS (by kernel_rfl)
      (cF rfl (o_lss .t .t) r2 trivial
      Chain.nil)
      (by kernel_rfl) (by rw [hB]; kernel_rfl) ?_
    clear hS; intro a w F hS
    obtain ⟨F, hS⟩ := hS.norm [(4, _), (6, _), (24, _), (25, _), (26, _), (27, _)] [(0, _), (40, _), (102, _)] r6 r3
    try dsimp only [rInt, rOneS, rDeedQ] at hS
    refine then_n ?_
    refine wp_seq ?_
    refine cond_b hS rfl (fun hc2 => ?_) (fun hc2 => ?_)
    ·skip
     have hil : i < l.length := by simp at hc2; omega
     have hik0 : 0 ≤ ((Go.Gm.nth l i).src % (all.length : Int)) := Int.emod_nonneg _ (by omega)
     have hik1 : ((Go.Gm.nth l i).src % (all.length : Int)) < (all.length : Int) := Int.emod_lt_of_pos _ (by omega)
     refine wp_skip ?_
     refine then_n ?_
     refine wp_seq ?_
     refine wp_block ?_
     refine wp_seq ?_
     refine region_seq hS (by kernel_rfl)
       (cF rfl (o_indexAddr_sl (sz := 4) (.mk Try.underlying22 (by kernel_rfl)) (by intro x; rfl) .t .t (by first | assumption | omega) (by first | assumption | omega)) r2 trivial
       (cF rfl (o_load_ref (ag := true) (sz := 4) .t (by kernel_rfl) (by kernel_rfl) (by kernel_rfl)) r1 trivial
       (cF rfl (o_alloc (zs := [.int .i64 0, .int .i64 0, .int .i64 0, .int .i64 0]) 103 (by kernel_rfl)) trivial trivial
       (cF rfl (o_storeA (sz := 4) 103 .same .t (by kernel_rfl) (by kernel_rfl) (by kernel_rfl)) r2 r1
       Chain.nil))))
       (by kernel_rfl) (by rw [hB]; kernel_rfl) ?_
     clear hS; intro a w F hS
     replace hS := hS.sub
     obtain ⟨F, hS⟩ := hS.norm [(4, _), (6, _), (8, _), (24, _), (25, _), (26, _), (27, _), (28, _), (29, _)] [(0, _), (40, _), (102, _), (103, _)] ⟨rfl, rfl, rfl, rfl, rfl, rfl, rfl, rfl, rfl, trivial⟩ r4
     try dsimp only [RS.sub, SF.sub, CF.sub, csub, Anc.sub, List.map, stCells, List.length_cons, List.length_nil, Nat.reduceAdd, List.drop_succ_cons, List.drop_zero, List.drop_nil, List.take_succ_cons, List.take_zero, List.take_nil, List.cons_append, List.nil_append, zCF, ldSF, rInt, rOneS, rDeedQ] at hS
     generalize Act.tau a 8 = v8 at hS
     try simp only [Int.toNat_natCast] at hS
     refine then_n ?_
     refine wp_seq ?_
     obtain ⟨rm0, q0, hL0, hone⟩ := hall (Go.Gm.nth all ((Go.Gm.nth l i).src % (all.length : Int)).toNat) (nth_mem (by omega))
     obtain ⟨F, hS⟩ := hS.takeAt famH 40 41 (Go.Gm.nth all ((Go.Gm.nth l i).src % (all.length : Int)).toNat).j rfl rfl hL0
     obtain ⟨_, _, _, ho⟩ := hS.obGet 41 rfl
     have hI0 : ArOk rm0 q0 := arH_ok ho
     clear ho
     have hIl := hI0.le
     have hIh := hI0.hi
     replace hS := hS.fresh 42 rfl
     obtain ⟨F, hS⟩ := hS.norm [(4, _), (6, _), (8, _), (24, _), (25, _), (26, _), (27, _), (28, _), (29, _)] [(0, _), (40, _), (41, _), (42, _), (102, _), (103, _)] ⟨rfl, rfl, rfl, rfl, rfl, rfl, rfl, rfl, rfl, trivial⟩ r6
     refine region_any (by kernel_rfl) hS (by kernel_rfl)
       (cF rfl (o_move .t (by rfl)) r1 trivial
       (cF rfl (o_fieldAddr (off := 1) 103 .is (by kernel_rfl) (by rfl)) r1 r1
       (cF rfl (o_load (ag := false) (sz := 1) 103 .adr (by kernel_rfl) (by kernel_rfl) (by kernel_rfl) (by rfl)) r1 r1
       (cF rfl (o_move .t (by rfl)) r1 trivial
       (cF rfl (o_len_row 102 Try.underlying32 .is) r1 r1
       (cF rfl (o_callP (pick07_c _ _ (by omega) (by omega)) Try.func12 rfl (by kernel_rfl) (Args.two .t .t)) r2 trivial
       (cF rfl (o_indexAddr_row (sz := 4) 102 (.mk Try.underlying32 (by kernel_rfl)) .is .t (by omega) (by omega) (by rfl)) r2 r1
       (cF rfl (o_load_row0 (ag := true) (sz' := 4) (sz := 4) 102 .t (by intro x; rfl) (by omega) (by kernel_rfl) (by kernel_rfl) (by kernel_rfl)) r1 r1
       (cF rfl (o_load (ag := true) (sz := 4) 103 .is (by kernel_rfl) (by kernel_rfl) (by kernel_rfl) (by rfl)) r1 r1
       (cF rfl (o_callFS 41 42 (step07_c (Go.Gm.nth all ((Go.Gm.nth l i).src % (all.length : Int)).toNat).b rm0 q0 (Go.Gm.nth all ((Go.Gm.nth l i).src % (all.length : Int)).toNat).root (Go.Gm.nth all ((Go.Gm.nth l i).src % (all.length : Int)).toNat).t (Go.Gm.nth all ((Go.Gm.nth l i).src % (all.length : Int)).toNat).l (Go.Gm.nth l i) i hone (by omega) (by omega)) Try.func11 rfl (by kernel_rfl) rfl (Args.two (.pagg .t) (.pagg .t))) r2 r2
       (cF rfl (o_move .t (by rfl)) r1 trivial
       (cF rfl (o_extractF (fun _ => rfl) (by rfl)) r1 trivial
       (cF rfl (o_extractFc (fun _ => rfl)) r1 trivial
       (cF rfl (o_alloc (zs := [.pointer none, .int .i64 0, .pointer none, .slice none 0 0]) 104 (by kernel_rfl)) trivial trivial
       (cF rfl (o_storeA (sz := 4) 104 .same (.conv .t (Ent.fnAgg (.fn (.pv (.fn (.pv .nil)))))) (by kernel_rfl) (by kernel_rfl) (by kernel_rfl)) r2 r1
       (cF rfl (o_assign .t (by rfl)) r1 trivial
       Chain.nil))))))))))))))))
       (by kernel_rfl) (by rw [hB]; kernel_rfl) ?_
     clear hS; intro a w F hS
     replace hS := hS.sub
     obtain ⟨F, hS⟩ := hS.norm [(4, _), (6, _), (8, _), (9, _), (10, _), (24, _), (25, _), (26, _), (27, _), (28, _), (29, _), (30, _), (31, _), (32, _), (33, _), (34, _), (35, _), (36, _), (37, _), (38, _), (39, _), (40, _), (41, _), (42, _)] [(0, _), (40, _), (41, _), (42, _), (102, _), (103, _), (104, _)] ⟨rfl, rfl, rfl, rfl, rfl, rfl, rfl, rfl, rfl, rfl, rfl, rfl, rfl, rfl, rfl, rfl, rfl, rfl, rfl, rfl, rfl, rfl, rfl, rfl, trivial⟩ r7
     try dsimp only [RS.sub, SF.sub, CF.sub, csub, Anc.sub, List.map, stCells, List.length_cons, List.length_nil, Nat.reduceAdd, List.drop_succ_cons, List.drop_zero, List.drop_nil, List.take_succ_cons, List.take_zero, List.take_nil, List.cons_append, List.nil_append, zCF, ldSF, rInt, rOneS, rDeedQ] at hS
     generalize Act.tau a 40 = v40 at hS
     generalize Act.tau a 9 = v9 at hS
     try simp only [Int.toNat_natCast] at hS
     obtain ⟨_, _, _, ho⟩ := hS.obGet 42 rfl
     obtain ⟨b2, hb2, -⟩ := ho
     replace hb2 : hdT v40 = arV (some b2) := hb2
     replace hS := hS.turn 42 rfl (r' := RS.hp (stepKQ (stepQO rm0 q0 (Go.Gm.nth all ((Go.Gm.nth l i).src % (all.length : Int)).toNat).root (Go.Gm.nth all ((Go.Gm.nth l i).src % (all.length : Int)).toNat).t (Go.Gm.nth all ((Go.Gm.nth l i).src % (all.length : Int)).toNat).l (Go.Gm.nth l i)).mv (Go.Gm.nth all ((Go.Gm.nth l i).src % (all.length : Int)).toNat).b b2)) (fun _ _ _ _ h => HP.named_open arV_inj hb2 h)
     rw [hb2] at hS
     have hsok := stepQO_ok (room := rm0) hone (by omega) (Go.Gm.nth l i)
     generalize (stepQO rm0 q0 (Go.Gm.nth all ((Go.Gm.nth l i).src % (all.length : Int)).toNat).root (Go.Gm.nth all ((Go.Gm.nth l i).src % (all.length : Int)).toNat).t (Go.Gm.nth all ((Go.Gm.nth l i).src % (all.length : Int)).toNat).l (Go.Gm.nth l i)) = so at hS hsok
     obtain ⟨F, rm2, q2, L2, j2, hS, hj2, hone2, hfl, hq2, hrm2⟩ := famStepQ hS rfl rfl rfl hL0 hsok
     obtain ⟨F, hS⟩ := hS.norm [(4, _), (6, _), (8, _), (9, _), (10, _), (24, _), (25, _), (26, _), (27, _), (28, _), (29, _), (30, _), (31, _), (32, _), (33, _), (34, _), (35, _), (36, _), (37, _), (38, _), (39, _), (40, _), (41, _), (42, _)] [(0, _), (40, _), (41, _), (102, _), (103, _), (104, _)] ⟨rfl, rfl, rfl, rfl, rfl, rfl, rfl, rfl, rfl, rfl, rfl, rfl, rfl, rfl, rfl, rfl, rfl, rfl, rfl, rfl, rfl, rfl, rfl, rfl, trivial⟩ r6
     refine then_n ?_
     refine wp_seq ?_
     refine wp_seq ?_
     refine region_seq hS (by kernel_rfl)
       (cF rfl (o_move .t (by rfl)) r1 trivial
       (cF rfl (o_not .t) r1 trivial
       (cF rfl (o_move .t (by rfl)) r1 trivial
       (Chain.cons (Cert.cond rfl rfl (fun h => o_load (ag := true) (sz := 4) 104 .is (by kernel_rfl) (by kernel_rfl) (by kernel_rfl) (by rfl))) r2 r1
       (Chain.cons (Cert.cond rfl rfl (fun h => o_load (ag := true) (sz := 4) 103 .is (by kernel_rfl) (by kernel_rfl) (by kernel_rfl) (by rfl))) r2 r1
       (Chain.cons (Cert.condR rfl rfl (by rfl) (fun h => o_callG1 41 (tells07_c b2 rm2 q2 so.root so.t so.l (Go.Gm.nth l i) (i + 1) hone2 (by omega) (by omega)) Try.func13 rfl (by kernel_rfl) (Args.two (.pagg (.w h)) (.pagg (.w h))))) r3 r1
       (Chain.cons (Cert.cond rfl rfl (fun h => o_not (.w h))) r2 trivial
       (cF rfl (o_or2 .t .t) r2 trivial
       Chain.nil))))))))
       (by kernel_rfl) (by rw [hB]; kernel_rfl) ?_
     clear hS; intro a w F hS
     obtain ⟨F, hS⟩ := hS.norm [(4, _), (6, _), (8, _), (9, _), (10, _), (24, _), (25, _), (26, _), (27, _), (28, _), (29, _), (30, _), (31, _), (32, _), (33, _), (34, _), (35, _), (36, _), (37, _), (38, _), (39, _), (40, _), (41, _), (42, _), (43, _), (44, _), (45, _), (46, _), (47, _), (48, _), (49, _), (50, _)] [(0, _), (40, _), (41, _), (102, _), (103, _), (104, _)] ⟨rfl, rfl, rfl, rfl, rfl, rfl, rfl, rfl, rfl, rfl, rfl, rfl, rfl, rfl, rfl, rfl, rfl, rfl, rfl, rfl, rfl, rfl, rfl, rfl, rfl, rfl, rfl, rfl, rfl, rfl, rfl, rfl, trivial⟩ r6
     try dsimp only [List.map, List.drop_succ_cons, List.drop_zero, List.drop_nil, List.take_succ_cons, List.take_zero, List.take_nil, ldSF, rInt, rOneS, rDeedQ] at hS
     refine then_n ?_
     refine cond_b hS rfl (fun hc3 => ?_) (fun hc3 => ?_)
     ·skip
      simp at hc3
     ·skip
      obtain ⟨F, hS⟩ := hS.putBack famH (x := (b2, rm2, q2)) 40 41 j2 hj2 rfl rfl rfl
      have hC2 : (all ++ [(⟨b2, j2, so.root, so.t, so.l⟩ : OneS)]).length = i + 1 + 1 ∧ OnesQOk L2 ((i + 1 : Nat) : Int) (all ++ [⟨b2, j2, so.root, so.t, so.l⟩]) := ⟨by rw [List.length_append, hal]; rfl, (hall.le hfl (by omega)).add hj2 (by have h := hone2; rwa [show (i : Int) + 1 = ((i + 1 : Nat) : Int) by omega] at h)⟩
      obtain ⟨F, hS⟩ := hS.norm [(4, _), (6, _), (8, _), (9, _), (10, _), (24, _), (25, _), (26, _), (27, _), (28, _), (29, _), (30, _), (31, _), (32, _), (33, _), (34, _), (35, _), (36, _), (37, _), (38, _), (39, _), (40, _), (41, _), (42, _), (43, _), (44, _), (45, _), (46, _), (47, _), (48, _), (49, _), (50, _)] [(0, _), (40, _), (102, _), (103, _), (104, _)] ⟨rfl, rfl, rfl, rfl, rfl, rfl, rfl, rfl, rfl, rfl, rfl, rfl, rfl, rfl, rfl, rfl, rfl, rfl, rfl, rfl, rfl, rfl, rfl, rfl, rfl, rfl, rfl, rfl, rfl, rfl, rfl, rfl, trivial⟩ r5
      refine wp_skip ?_
      refine then_n ?_
      refine region_seq hS (by kernel_rfl)
        (cF rfl (o_move .t (by rfl)) r1 trivial
        (cF rfl (o_load (ag := true) (sz := 4) 104 .is (by kernel_rfl) (by kernel_rfl) (by kernel_rfl) (by rfl)) r1 r1
        (cF rfl (o_buildSliceE (sz := 4) (zs := [.pointer none, .int .i64 0, .pointer none, .slice none 0 0]) (r := [(0, .tmp 52)]) (l := [_, _, _, _]) Try.underlying32 (by kernel_rfl) (by kernel_rfl) (by kernel_rfl) (by kernel_rfl) rfl rfl (.agg rfl .t (by kernel_rfl) (by kernel_rfl) .nil) rfl) r1 trivial
        (cF rfl (o_append (sz := 4) (bs := 48) 102 (.mk' Try.underlying32 (by kernel_rfl) (by kernel_rfl)) (by intro x; rfl) .is (.arr (l' := [(⟨b2, j2, so.root, so.t, so.l⟩ : OneS)]) .t) (by simp only [List.length_cons, List.length_nil]; omega) (by decide)) ⟨rfl, rfl, trivial⟩ ⟨rfl, trivial⟩
        (cF rfl (o_assign .t (by rfl)) r1 trivial
        Chain.nil)))))
        (by kernel_rfl) (by rw [hB]; kernel_rfl) ?_
      clear hS; intro a w F hS
      replace hS := hS.sub
      obtain ⟨F, hS⟩ := hS.norm [(4, _), (6, _), (8, _), (9, _), (10, _), (24, _), (25, _), (26, _), (27, _), (28, _), (29, _), (30, _), (31, _), (32, _), (33, _), (34, _), (35, _), (36, _), (37, _), (38, _), (39, _), (40, _), (41, _), (42, _), (43, _), (44, _), (45, _), (46, _), (47, _), (48, _), (49, _), (50, _), (51, _), (52, _), (53, _), (54, _)] [(0, _), (40, _), (102, _), (103, _), (104, _)] ⟨rfl, rfl, rfl, rfl, rfl, rfl, rfl, rfl, rfl, rfl, rfl, rfl, rfl, rfl, rfl, rfl, rfl, rfl, rfl, rfl, rfl, rfl, rfl, rfl, rfl, rfl, rfl, rfl, rfl, rfl, rfl, rfl, rfl, rfl, rfl, rfl, trivial⟩ r5
      try dsimp only [RS.sub, SF.sub, CF.sub, csub, Anc.sub, List.map, stCells, List.length_cons, List.length_nil, Nat.reduceAdd, List.drop_succ_cons, List.drop_zero, List.drop_nil, List.take_succ_cons, List.take_zero, List.take_nil, List.cons_append, List.nil_append, zCF, ldSF, rInt, rOneS, rDeedQ] at hS
      generalize Act.tau a 54 = v54 at hS
      refine block_n ?_
      refine then_n ?_
      refine region_seq hS (by kernel_rfl)
        (cF rfl (o_add .t (.ci (by kernel_rfl))) r1 trivial
        (cF rfl (o_move .t (by rfl)) r1 trivial
        Chain.nil))
        (by kernel_rfl) (by rw [hB]; kernel_rfl) ?_
      clear hS; intro a w F hS
      obtain ⟨F, hS⟩ := hS.norm [(4, _), (6, _), (8, _), (9, _), (10, _), (24, _), (25, _), (26, _), (27, _), (28, _), (29, _), (30, _), (31, _), (32, _), (33, _), (34, _), (35, _), (36, _), (37, _), (38, _), (39, _), (40, _), (41, _), (42, _), (43, _), (44, _), (45, _), (46, _), (47, _), (48, _), (49, _), (50, _), (51, _), (52, _), (53, _), (54, _), (55, _)] [(0, _), (40, _), (102, _), (103, _), (104, _)] ⟨rfl, rfl, rfl, rfl, rfl, rfl, rfl, rfl, rfl, rfl, rfl, rfl, rfl, rfl, rfl, rfl, rfl, rfl, rfl, rfl, rfl, rfl, rfl, rfl, rfl, rfl, rfl, rfl, rfl, rfl, rfl, rfl, rfl, rfl, rfl, rfl, rfl, trivial⟩ r5
      try dsimp only [rInt, rOneS, rDeedQ] at hS
      refine then_n ?_
      replace hS := hS.ent (i := 26) (s' := .pv (.int .i64 ((i + 1 : Nat) : Int))) rfl (.int (wrap_succ (by omega)))
      obtain ⟨F, hS⟩ := hS.norm [(26, _), (6, _), (4, _), (24, _), (25, _)] [(40, _), (102, _), (0, _)] ⟨rfl, rfl, rfl, rfl, rfl, trivial⟩ ⟨rfl, rfl, rfl, trivial⟩
      exact ⟨((i + 1), (L2), _, (all ++ [(⟨b2, j2, so.root, so.t, so.l⟩ : OneS)])), F, ⟨by omega, hC2⟩, hS, by omega⟩
    ·skip
     have hil : i = l.length := by simp at hc2; omega
     refine wp_exit ?_
     refine then_x ?_
     refine then_x ?_
     refine block_x ?_
     refine then_n ?_
     refine wp_seq ?_
     refine region_seq hS (by kernel_rfl)
       (cF rfl (o_callP (lives07_c) Try.func8 rfl (by kernel_rfl) Args.nil) trivial trivial
       (cF rfl (o_assign .t (by rfl)) r1 trivial
       Chain.nil))
       (by kernel_rfl) (by rw [hB]; kernel_rfl) ?_
     clear hS; intro a w F hS
     obtain ⟨F, hS⟩ := hS.norm [(4, _)] [(0, _), (40, _), (102, _)] r1 r3
     try dsimp only [rInt, rOneS, rDeedQ] at hS
     refine then_n ?_
     refine wp_ret ?_
     refine ret_P hfr hS rfl (.tmp rfl .nil) (.one (.bool rfl))

end Go.Proofs.Ytdfpljecogijaaa
