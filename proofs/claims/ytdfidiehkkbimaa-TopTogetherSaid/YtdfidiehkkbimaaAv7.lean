/- Maps: Put, Del. No condition beyond those that each theorem says. -/
import Derived.Test.YtdfidiehkkbimaaAv5
import Derived.Test.YtdfidiehkkbimaaAv6
namespace Go.Proofs.Ytdfidiehkkbimaa
open Go Go.Gm
set_option linter.unusedVariables false
set_option linter.unusedSimpArgs false
set_option maxHeartbeats 4000000
set_option maxRecDepth 8000


theorem lookT_has {k : Int} : ∀ {t : Tree}, (lookT k t).2 = true ↔ HasT k t
  | .nil => by simp [lookT, HasT]
  | .node l p r => by
    have hl := @lookT_has k l
    have hr := @lookT_has k r
    unfold lookT HasT
    split
    · exact hl
    · split
      · exact hr
      · simp
/-- What is told behind an edit: with an error the arena is as it was. -/
def toldM (n : Nat) (m : St) : St := (if m.2.1 ≠ 0 then arCut m.1 n else m.1, m.2.1, if m.2.1 ≠ 0 then 0 else m.2.2)
def putM (room : Int) (q : List Cell) (p : PairD) (t : Tree) (root : Int) : St := toldM q.length (putS id room q 0 p t root)
def delM (room : Int) (q : List Cell) (k : Int) (t : Tree) (root : Int) : St := if (lookT k t).2 = true then toldM q.length (delS id room q 0 k t root) else (q, 3, 0)
theorem toldM_good {kf : Int → Int} {room lo n : Int} {q : List Cell} {m : St} {t : Tree} (h : Good kf room q lo n m t) : (∃ e : List Cell, (toldM q.length m).1 = q ++ e ∧ (toldM q.length m).2.1 = 0 ∧ Rep kf (q ++ e) t (toldM q.length m).2.2 ∧ lo ≤ e.length ∧ (e.length : Int) ≤ n) ∨ (toldM q.length m = (q, 2, 0) ∧ room < q.length + n) := by
  obtain ⟨e, e1, e2, ⟨e3, e4, e5⟩ | ⟨e3, e4⟩⟩ := h
  · refine .inl ⟨e, ?_⟩
    unfold toldM
    rw [if_neg (by omega), if_neg (by omega)]
    exact ⟨e1, e3, by rw [← e1]; exact e4, e5, e2⟩
  · refine .inr ⟨?_, e4⟩
    unfold toldM
    rw [if_pos (by omega), if_pos (by omega), e3, e1]
    have : arCut (q ++ e) q.length = q := by
      unfold arCut
      rw [if_pos (by simp only [List.length_append]; omega), Int.toNat_natCast, List.take_left]
    rw [this]

theorem mnew_c (o : Option Nat) : FnP Try.prog 38 [.is (arV o)] (.agg [.is (arV o), .int .i64 0]) := by
  refine FnP.mk Try.func38 rfl Try.ntmps38 rfl ?_
  intro B a w F hB hfr hS
  refine wp_seq ?_
  refine region_q hS
    (cF rfl (oH [.pointer none, .int .i64 0] 101) trivial trivial
    Chain.nil)
    hB ?_
  clear hS; intro a w F hS
  replace hS := hS.sub
  obtain ⟨F, hS⟩ := hS.nm [2, 0] [101, 0] rfl rfl
  try dsimp only [RS.sub, SF.sub, CF.sub, csub, Anc.sub, List.map, zCF, rCell, rPair] at hS
  generalize Act.tau a 2 = v2 at hS
  refine then_n (wp_seq ?_)
  refine region_q hS
    (cF rfl (oM .t) r1 trivial
    (cF rfl (oB [(0, .tmp 3)] [.pointer none, .int .i64 0] [(0, 1), (1, 1)] (.one rfl .t one_is (by kernel_rfl) .nil)) r1 trivial
    (cF rfl (oA 2 101 .is .t) r2 r1
    Chain.nil)))
    hB ?_
  clear hS; intro a w F hS
  obtain ⟨F, hS⟩ := hS.nm [2] [101, 0] rfl rfl
  try dsimp only [List.map, stCells, xL, xM, Nat.reduceAdd, xD, xE, xT, xU, xC, xN, zCF, rCell, rPair] at hS
  refine then_n (wp_ret ?_)
  refine ret_P hfr hS rfl (.cell (n := 101) (ag := true) (sz := 2) rfl .is rfl (by kernel_rfl) (by kernel_rfl) (by kernel_rfl) .nil) (.one (.aggU rfl rfl))

theorem mtold_c (b : Nat) (o : Option Nat) (root why room : Int) (q : List Cell) (rt mark : Int) : FnG Try.prog 90 1 [.is (.pointer (some ⟨b, 0, none⟩)), .int .i64 rt, .int .i64 mark] [bldH 157 (.pointer (some ⟨b, 0, none⟩)) o root why room q] (.tup [.agg [.is (arV o), .int .i64 (if why ≠ 0 then 0 else rt)], .int .i64 why]) (fun _ => [bldH 157 (.pointer (some ⟨b, 0, none⟩)) o root why room (if why ≠ 0 then arCut q mark else q)]) := by
  refine FnG.mk Try.func90 rfl Try.ntmps90 rfl (by kernel_rfl) ?_
  intro B F0 a w F hB hG hS
  obtain ⟨F, hS⟩ := hS.peel 1 4 rfl rfl
  obtain ⟨F, hS⟩ := hS.peel 1 5 rfl rfl
  obtain ⟨F, hS⟩ := hS.nm [2, 1, 0] [5, 4, 0] rfl rfl
  refine wp_seq ?_
  refine region_q hS
    (cF rfl (oH [.pointer none, .int .i64 0] 101) trivial trivial
    (cF rfl (oN (.ci (by kernel_rfl))) trivial trivial
    Chain.nil))
    hB ?_
  clear hS; intro a w F hS
  replace hS := hS.sub
  obtain ⟨F, hS⟩ := hS.nm [7, 6, 2, 1, 0] [101, 5, 4, 0] rfl rfl
  try dsimp only [RS.sub, SF.sub, CF.sub, csub, Anc.sub, List.map, zCF, rCell, rPair] at hS
  generalize Act.tau a 6 = v6 at hS
  refine then_n (wp_seq (wp_seq ?_))
  refine region_q hS
    (cF rfl (oM .t) r1 trivial
    (cF rfl (o_nilCheck 4 .is (by rfl)) r1 r1
    (cF rfl (oF 2 4 .adr) r1 r1
    (cF rfl (oL false 1 4 .adr) r1 r1
    (cF rfl (o_neq .t (.ci (by kernel_rfl))) r1 trivial
    Chain.nil)))))
    hB ?_
  clear hS; intro a w F hS
  obtain ⟨F, hS⟩ := hS.nm [12, 7, 6, 2, 1, 0] [101, 5, 4, 0] rfl rfl
  try dsimp only [List.map, xD, xE, xT, xU, ldSF, rCell, rPair] at hS
  refine then_n ?_
  refine cond_b hS rfl (fun hc0 => ?_) (fun hc0 => ?_)
  ·skip
   have hg : (if why ≠ 0 then arCut q mark else q) = arCut q mark := if_pos (by simpa using hc0)
   have hg2 : (if why ≠ 0 then 0 else rt) = 0 := if_pos (by simpa using hc0)
   refine wp_seq ?_
   refine region_q hS
     (cF rfl (oM .t) r1 trivial
     (cF rfl (o_nilCheck 4 .is (by rfl)) r1 r1
     (cF rfl (oF 0 4 .adr) r1 r1
     (cF rfl (oF 0 4 .adr) r1 r1
     (cF rfl (oL false 1 4 .adr) r1 r1
     (cF rfl (oM .t) r1 trivial
     (cF rfl (o_callG1 5 (aCut_c o room q mark) Try.func123 rfl (by kernel_rfl) (Args.two .t .t)) r2 r1
     Chain.nil)))))))
     hB ?_
   clear hS; intro a w F hS
   obtain ⟨F, hS⟩ := hS.nm [7, 6, 1, 0] [101, 5, 4, 0] rfl rfl
   try dsimp only [List.map, xD, xE, xT, xU, ldSF, rCell, rPair] at hS
   refine then_n (wp_seq ?_)
   refine region_any (by kernel_rfl) hS (by kernel_rfl)
     (cF rfl (oM .t) r1 trivial
     (cF rfl (o_nilCheck 4 .is (by rfl)) r1 r1
     (cF rfl (oF 0 4 .adr) r1 r1
     (cF rfl (oF 0 4 .adr) r1 r1
     (cF rfl (oL false 1 4 .adr) r1 r1
     (cF rfl (oP (mnew_c o) Try.func38 (Args.one .t)) r1 trivial
     (cF rfl (oM .t) r1 trivial
     (cF rfl (o_nilCheck 4 .is (by rfl)) r1 r1
     (cF rfl (oF 2 4 .adr) r1 r1
     (cF rfl (oL false 1 4 .adr) r1 r1
     (cF rfl (oA 2 101 .is (.conv .t .agg)) r2 r1
     (cF rfl (oN .t) r1 trivial
     Chain.nil))))))))))))
     (by kernel_rfl) (by rw [hB]; kernel_rfl) ?_
   clear hS; intro a w F hS
   obtain ⟨F, hS⟩ := hS.nm [7, 6, 1, 0] [101, 5, 4, 0] rfl rfl
   try dsimp only [List.map, stCells, xL, xM, Nat.reduceAdd, xD, xE, xT, xU, xC, xN, zCF, ldSF, rCell, rPair] at hS
   refine then_n (wp_ret (then_r ?_))
   have hS := hS.fresh 1 rfl
   obtain ⟨F, hS⟩ := hS.push 1 5 rfl rfl rfl (by kernel_rfl)
   obtain ⟨F, hS⟩ := hS.push 1 4 rfl rfl rfl (by kernel_rfl)
   have hS := hS.turn 1 rfl (r' := RS.hp (bldH 157 (.pointer (some ⟨b, 0, none⟩)) o root why room (if why ≠ 0 then arCut q mark else q))) (fun _ _ _ _ h => by rw [hg]; exact h)
   refine ret_G1 hG hS rfl (.cell (n := 101) (ag := true) (sz := 2) rfl .is rfl (by kernel_rfl) (by kernel_rfl) (by kernel_rfl) (.tmp rfl .nil)) (.two (.aggU rfl (by first | (rw [hg2]; done) | (rw [hg2]; rfl))) (.int (by first | rfl | exact hw))) rfl
  have hw : (0 : Int) = why := by simp at hc0; omega
  have hg : (if why ≠ 0 then arCut q mark else q) = q := if_neg (by omega)
  have hg2 : (if why ≠ 0 then 0 else rt) = rt := if_neg (by omega)
  refine wp_skip (then_n (wp_seq ?_))
  refine region_q hS
    (cF rfl (oM .t) r1 trivial
    (cF rfl (o_nilCheck 4 .is (by rfl)) r1 r1
    (cF rfl (oF 0 4 .adr) r1 r1
    (cF rfl (oF 0 4 .adr) r1 r1
    (cF rfl (oL false 1 4 .adr) r1 r1
    (cF rfl (oM .t) r1 trivial
    (cF rfl (oB [(0, .tmp 34), (1, .tmp 35)] [.pointer none, .int .i64 0] [(0, 1), (1, 1)] (.one rfl .t one_is (by kernel_rfl) (.one rfl .t one_int (by kernel_rfl) .nil))) r2 trivial
    (cF rfl (oA 2 101 .is .t) r2 r1
    (cF rfl (oN (.ci (by kernel_rfl))) trivial trivial
    Chain.nil)))))))))
    hB ?_
  clear hS; intro a w F hS
  obtain ⟨F, hS⟩ := hS.nm [7, 6] [101, 5, 4, 0] rfl rfl
  try dsimp only [List.map, stCells, xL, xM, Nat.reduceAdd, xD, xE, xT, xU, xC, xN, zCF, ldSF, rCell, rPair] at hS
  refine then_n (wp_ret ?_)
  have hS := hS.fresh 1 rfl
  obtain ⟨F, hS⟩ := hS.push 1 5 rfl rfl rfl (by kernel_rfl)
  obtain ⟨F, hS⟩ := hS.push 1 4 rfl rfl rfl (by kernel_rfl)
  have hS := hS.turn 1 rfl (r' := RS.hp (bldH 157 (.pointer (some ⟨b, 0, none⟩)) o root why room (if why ≠ 0 then arCut q mark else q))) (fun _ _ _ _ h => by rw [hg]; exact h)
  refine ret_G1 hG hS rfl (.cell (n := 101) (ag := true) (sz := 2) rfl .is rfl (by kernel_rfl) (by kernel_rfl) (by kernel_rfl) (.tmp rfl .nil)) (.two (.aggU rfl (by first | (rw [hg2]; done) | (rw [hg2]; rfl))) (.int (by first | rfl | exact hw))) rfl

theorem mPut_c (o : Option Nat) (room : Int) (q : List Cell) (root : Int) (k x : Int) (t0 : Tree) (hr0 : Rep id q t0 root) : FnG Try.prog 39 1 [.agg [.is (arV o), .int .i64 root], .int .i64 k, .int .i64 x] [arH o room q] (.tup [.agg [.is (arV o), .int .i64 (putM room q ⟨k, x⟩ t0 root).2.2], .int .i64 (putM room q ⟨k, x⟩ t0 root).2.1]) (fun _ => [arH o room (putM room q ⟨k, x⟩ t0 root).1]) := by
  refine FnG.mk Try.func39 rfl Try.ntmps39 rfl (by kernel_rfl) ?_
  intro B F0 a w F hB hG hS
  have hg : (putM room q ⟨k, x⟩ t0 root) = toldM q.length (putS id room q 0 ⟨k, x⟩ t0 root) := rfl
  refine wp_seq ?_
  refine region_q hS
    (cF rfl (oX 101 (.conv .t .agg)) r1 trivial
    (cF rfl (oH [.pointer none, .int .i64 0] 102) trivial trivial
    (cF rfl (oN (.ci (by kernel_rfl))) trivial trivial
    Chain.nil)))
    hB ?_
  clear hS; intro a w F hS
  replace hS := hS.sub
  obtain ⟨F, hS⟩ := hS.nm [7, 6, 3, 2, 1] [102, 101, 1, 0] rfl rfl
  try dsimp only [RS.sub, SF.sub, CF.sub, csub, Anc.sub, List.map, zCF, rCell, rPair] at hS
  generalize Act.tau a 3 = v3 at hS
  generalize Act.tau a 6 = v6 at hS
  refine then_n (wp_seq ?_)
  refine region_q hS
    (cF rfl (oL true 2 101 .is) r1 r1
    (cF rfl (oB [(0, .tmp 10)] [.pointer none, .int .i64 0, .int .i64 0] [(0, 2), (2, 1)] (.agg rfl .t (by kernel_rfl) (by kernel_rfl) .nil)) r1 trivial
    (cF rfl (oX 103 .t) r1 trivial
    (cF rfl (oN .t) r1 trivial
    Chain.nil))))
    hB ?_
  clear hS; intro a w F hS
  replace hS := hS.sub
  obtain ⟨F, hS⟩ := hS.nm [8, 7, 6, 3, 2, 1] [103, 102, 101, 1, 0] rfl rfl
  try dsimp only [RS.sub, SF.sub, CF.sub, csub, Anc.sub, List.map, stCells, xL, xM, Nat.reduceAdd, xD, xE, xT, xU, xC, xN, zCF, ldSF, rCell, rPair] at hS
  generalize Act.tau a 12 = v12 at hS
  refine then_n (wp_seq ?_)
  refine region_q hS
    (cF rfl (oF 0 101 .is) r1 r1
    (cF rfl (oL false 1 101 .adr) r1 r1
    (cF rfl (o_callG1 1 (aLen_c o room q) Try.func89 rfl (by kernel_rfl) (Args.one .t)) r1 r1
    (cF rfl (oN .t) r1 trivial
    Chain.nil))))
    hB ?_
  clear hS; intro a w F hS
  obtain ⟨F, hS⟩ := hS.nm [9, 8, 7, 6, 3, 2, 1] [103, 102, 101, 1, 0] rfl rfl
  try dsimp only [List.map, xD, xE, xT, xU, ldSF, rCell, rPair] at hS
  refine then_n (wp_seq ?_)
  obtain ⟨b, rfl⟩ := hS.shape 103 rfl
  have hS := hS.fresh 4 rfl
  obtain ⟨F, hS⟩ := hS.push 4 1 rfl rfl rfl (by kernel_rfl)
  obtain ⟨F, hS⟩ := hS.push 4 103 rfl rfl rfl (by kernel_rfl)
  have hS := hS.turn 4 rfl (r' := RS.hp (bldH 157 (.pointer (some ⟨b, 0, none⟩)) o root 0 room q)) (fun _ _ _ _ h => h)
  obtain ⟨F, hS⟩ := hS.nm [9, 8, 7, 6, 3, 2, 1] [102, 101, 4, 0] rfl rfl
  refine region_q hS
    (cF rfl (oM .t) r1 trivial
    (cF rfl (oM .t) r1 trivial
    (cF rfl (oF 1 101 .is) r1 r1
    (cF rfl (oL false 1 101 .adr) r1 r1
    (cF rfl (oM .t) r1 trivial
    (cF rfl (oM .t) r1 trivial
    (cF rfl (oB [(0, .tmp 20), (1, .tmp 21)] [.int .i64 0, .int .i64 0] [(0, 1), (1, 1)] (.one rfl .t one_int (by kernel_rfl) (.one rfl .t one_int (by kernel_rfl) .nil))) r2 trivial
    (cF rfl (o_callG1 4 (mput_c b o root 0 room q ⟨k, x⟩ t0 root hr0) Try.func91 rfl (by kernel_rfl) (Args.three .t .t (.pagg .t))) r3 r1
    (cF rfl (oM .t) r1 trivial
    (cF rfl (o_callG1 4 (mtold_c b o root (putS id room q 0 ⟨k, x⟩ t0 root).2.1 room (putS id room q 0 ⟨k, x⟩ t0 root).1 (putS id room q 0 ⟨k, x⟩ t0 root).2.2 q.length) Try.func90 rfl (by kernel_rfl) (Args.three .t .t .t)) r3 r1
    (cF rfl (o_extract .t rfl) r1 trivial
    (cF rfl (o_extract .t rfl) r1 trivial
    (cF rfl (oA 2 102 .is (.conv .t .agg)) r2 r1
    (cF rfl (oN .t) r1 trivial
    Chain.nil))))))))))))))
    hB ?_
  clear hS; intro a w F hS
  obtain ⟨F, hS⟩ := hS.nm [7, 6] [102, 4, 0] rfl rfl
  try dsimp only [List.map, stCells, xL, xM, Nat.reduceAdd, xD, xE, xT, xU, xC, xN, zCF, ldSF, rCell, rPair] at hS
  refine then_n (wp_ret ?_)
  obtain ⟨F, hS⟩ := hS.peel 4 7 rfl rfl
  obtain ⟨F, hS⟩ := hS.peel 4 1 rfl rfl
  have hS := hS.turn 1 rfl (r' := RS.hp (arH o room (putM room q ⟨k, x⟩ t0 root).1)) (fun _ _ _ _ h => by rw [hg]; exact h)
  refine ret_G1 hG hS rfl (.cell (n := 102) (ag := true) (sz := 2) rfl .is rfl (by kernel_rfl) (by kernel_rfl) (by kernel_rfl) (.tmp rfl .nil)) (.two (.aggU rfl (by first | (rw [hg]; done) | (rw [hg]; rfl))) (.int (by first | (rw [hg]; done) | (rw [hg]; rfl)))) rfl

end Go.Proofs.Ytdfidiehkkbimaa
