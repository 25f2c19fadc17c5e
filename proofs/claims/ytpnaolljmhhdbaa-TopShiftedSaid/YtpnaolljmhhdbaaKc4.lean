/- The edges of a history. No condition beyond those that each theorem says. -/
import Derived.Test.YtpnaolljmhhdbaaKcX
import Derived.Test.YtpnaolljmhhdbaaTwX
import Derived.Test.YtpnaolljmhhdbaaDsX
namespace Go.Proofs.Ytpnaolljmhhdbaa
open Go Go.Gm
set_option linter.unusedVariables false
set_option linter.unusedSimpArgs false
set_option maxHeartbeats 4000000
set_option maxRecDepth 8000

theorem mkeys_c (mv : Value) : FnP Try.prog 65 [.is mv] (.clos 89 [.ref [.is mv]]) := by
  refine FnP.mk Try.func65 rfl Try.ntmps65 rfl ?_
  intro B a w F hB hfr hS
  refine wp_seq ?_
  refine region_q hS
    (cF rfl (o_box1 101 .t one_is) r1 trivial
    (cF rfl (oN (.c rfl)) trivial trivial
    Chain.nil))
    hB ?_
  clear hS; intro a w F hS
  replace hS := hS.sub
  obtain ⟨F, hS⟩ := hS.nm [2, 1] [101, 0] rfl rfl
  try dsimp only [RS.sub, SF.sub, CF.sub, csub, Anc.sub, List.map, zCF, rHist, rTx, rOrd, rVer, rInt, rOp] at hS
  generalize Act.tau a 1 = v1 at hS
  obtain ⟨F, hS⟩ := hS.giveRef 101 1 rfl rfl rfl
  obtain ⟨F, hS⟩ := hS.nm [2, 1] [0] rfl rfl
  try dsimp only [Go.Gm.unCF] at hS
  refine then_n (wp_seq ?_)
  refine region_q hS
    (cF rfl (o_makeFunc (Args.one .t)) r1 trivial
    (cF rfl (oN .t) r1 trivial
    Chain.nil))
    hB ?_
  clear hS; intro a w F hS
  obtain ⟨F, hS⟩ := hS.nm [2] [0] rfl rfl
  try dsimp only [rHist, rTx, rOrd, rVer, rInt, rOp] at hS
  refine then_n (wp_ret ?_)
  refine ret_P hfr hS rfl (.tmp rfl .nil) (.one .refl)

theorem keysG_len (l : List EdgeD) : (keysG ltE l).length ≤ l.length := by
  have key : ∀ (l acc : List EdgeD), (l.foldl (putG ltE) acc).length ≤ acc.length + l.length := by
    intro l
    induction l with
    | nil => intro acc; simp
    | cons e l ih =>
      intro acc
      rw [List.foldl_cons, List.length_cons]
      have h1 := ih (putG ltE acc e)
      have h2 : (putG ltE acc e).length ≤ acc.length + 1 := putRG_len ltE e acc false
      omega
  have := key l []
  unfold keysG
  simpa using this

theorem list_c (mv : Value) (AA : List (EdgeD × Int)) (RR : List EdgeD) (hAR : AA.length + RR.length ≤ 1000000) : FnG Try.prog 41 1 [.is mv] [edgH AA RR mv] (.sl rHv (edgesL AA RR)) (fun _ => [edgH AA RR mv]) := by
  refine FnG.mk Try.func41 rfl Try.ntmps41 rfl (by kernel_rfl) ?_
  intro B F0 a w F hB hG hS
  obtain ⟨⟨es, ck⟩, hS⟩ := hS.open_ex 1 rfl
  obtain ⟨hE, hS⟩ := hS.open_and 1 rfl
  replace hS := hS.turn 1 rfl (r' := .ob (.val mv) (mapG (fun n : Int => PV.int .i64 n) (fun k => ∀ x ∈ encEi k, inR .i64 x) (kvS encEi) es ck)) (fun _ _ _ _ h => h)
  try dsimp only at hE
  obtain ⟨F, hS⟩ := hS.nm [0] [1, 0] rfl rfl
  refine wp_seq ?_
  refine region_q hS
    (cF rfl (oN (.c rfl)) trivial trivial
    Chain.nil)
    hB ?_
  clear hS; intro a w F hS
  obtain ⟨F, hS⟩ := hS.nm [2, 0] [1, 0] rfl rfl
  try dsimp only [rHist, rTx, rOrd, rVer, rInt, rOp, rEdge, rHv] at hS
  refine then_n (wp_seq ?_)
  refine region_q hS
    (cF rfl (oN (.c rfl)) trivial trivial
    Chain.nil)
    hB ?_
  clear hS; intro a w F hS
  obtain ⟨F, hS⟩ := hS.nm [3, 2, 0] [1, 0] rfl rfl
  try dsimp only [rHist, rTx, rOrd, rVer, rInt, rOp, rEdge, rHv] at hS
  refine then_n (wp_seq (wp_seq ?_))
  replace hS := hS.fresh 60 rfl
  replace hS := hS.turn 1 rfl (r' := RS.hp (mapG (fun n : Int => PV.int .i64 n) (fun k => ∀ x ∈ encEi k, inR .i64 x) (kvS encEi) es ck mv)) (fun _ _ _ _ h => h)
  obtain ⟨F, hS⟩ := hS.nm [3, 2, 0] [60, 1, 0] rfl rfl
  refine part_first 3 hS (by kernel_rfl)
    (cG rfl (oM .t) r1 trivial
    (cG rfl (oP (mkeys_c mv) Try.func65 (Args.one .t)) r1 trivial
    (cG rfl (o_callG2N 1 60 (kcCollect_c (fun n : Int => PV.int .i64 n) mv es ck (by have := hE.len; omega)) Try.func64 rfl (by kernel_rfl) rfl (Args.one .t) pvOne1) r1 r2
    ChainN.nil)))
    (by kernel_rfl) (by rw [hB]; kernel_rfl) ?_
  clear hS; intro a w F hS
  replace hS := hS.sub
  obtain ⟨F, hS⟩ := hS.nm [8, 3, 2, 0] [60, 1, 0] rfl rfl
  try dsimp only [RS.sub, SF.sub, CF.sub, csub, Anc.sub, List.map, rHist, rTx, rOrd, rVer, rInt, rOp, rEdge, rHv] at hS
  generalize Act.tau a 8 = v8 at hS
  replace hS := hS.turn 60 rfl (r' := RS.hp (HP.ex fun l : List EdgeD => HP.and (l.Perm (es.map fun z : GE EdgeD Int => z.key)) (rowH 24 4 rEdge l v8))) (fun _ _ _ _ h => h)
  obtain ⟨ks, hS⟩ := hS.open_ex 60 rfl
  obtain ⟨hks, hS⟩ := hS.open_and 60 rfl
  replace hS := hS.turn 60 rfl (r' := .ob (.val v8) (rowH 24 4 rEdge ks)) (fun _ _ _ _ h => h)
  have hkl : ks.length ≤ 1000000 := by have h1 := hks.length_eq; have h2 := hE.len; rw [List.length_map] at h1; omega
  replace hS := hS.turn 1 rfl (r' := .ob (.val mv) (mapG (fun n : Int => PV.int .i64 n) (fun k => ∀ x ∈ encEi k, inR .i64 x) (kvS encEi) es ck)) (fun _ _ _ _ h => h)
  obtain ⟨F, hS⟩ := hS.give 60 8 rfl rfl
  obtain ⟨F, hS⟩ := hS.nm [8, 3, 2, 0] [1, 0] rfl rfl
  refine part_last hS (by kernel_rfl)
    (cG rfl (oP (sortEd_c ks hkl) Try.func63 (Args.one .t)) r1 trivial
    (cG rfl (o_len_sl Try.underlying114 .t) r1 trivial
    (cG rfl (oM (.ci (by kernel_rfl))) trivial trivial
    ChainN.nil)))
    (by kernel_rfl) (by rw [hB]; kernel_rfl) ?_
  clear hS; intro a w F hS
  obtain ⟨F, hS⟩ := hS.nm [11, 10, 9, 3, 2, 0] [1, 0] rfl rfl
  try dsimp only [rHist, rTx, rOrd, rVer, rInt, rOp, rEdge, rHv] at hS
  rw [keysG_edges hE hks] at hS
  have hkn : (keysG ltE (allE AA RR)).length ≤ 1000000 := by rw [← keysG_edges hE hks]; exact Nat.le_trans (keysG_len ks) hkl
  refine then_n (wp_block ?_)
  replace hS := hS.fresh 50 rfl
  replace hS := hS.turn 50 rfl (nilRow (T := 31) (sz := 5) (R := rHv))
  refine loop_keep (σ := (Nat) × (Value) × (List HvD)) [0, 2, 9, 10] [0, 1] (fun s => [(11, .pv (.int .i64 (s.1 : Int))), (3, .pv (.is s.2.1))]) (fun s => [(50, .ob (.val s.2.1) (rowH 31 5 rHv s.2.2))]) (fun s => s.1 ≤ (keysG ltE (allE AA RR)).length ∧ (s.2.2 = ((keysG ltE (allE AA RR)).take s.1).map fun e => (⟨e, cntA AA RR e⟩ : HvD))) (fun s => (keysG ltE (allE AA RR)).length - s.1) ((0), (.slice none 0 0), ([])) hS ⟨rfl, rfl, rfl, rfl, rfl, rfl, trivial⟩ ⟨rfl, rfl, rfl, trivial⟩ ⟨Nat.zero_le _, rfl⟩ ?_
  clear hS; intro s a w F hC hS
  obtain ⟨i, v, out⟩ := s
  try dsimp only at hC
  obtain ⟨F, hS⟩ := hS.nm [11, 10, 9, 3, 2, 0] [50, 1, 0] rfl rfl
  try dsimp only at hS
  obtain ⟨hi, hq⟩ := hC
  have hol : out.length ≤ i := by rw [hq, List.length_map, List.length_take]; omega
  refine wp_seq ?_
  refine region_q hS
    (cF rfl (o_lss .t .t) r2 trivial
    Chain.nil)
    hB ?_
  clear hS; intro a w F hS
  obtain ⟨F, hS⟩ := hS.nm [12, 11, 10, 9, 3, 2, 0] [50, 1, 0] rfl rfl
  try dsimp only [rHist, rTx, rOrd, rVer, rInt, rOp, rEdge, rHv] at hS
  refine then_n (wp_seq ?_)
  refine cond_b hS rfl (fun hc0 => ?_) (fun hc0 => ?_)
  ·skip
   have hil : i < (keysG ltE (allE AA RR)).length := by simp at hc0; omega
   refine wp_skip (then_n (wp_seq (wp_block (wp_seq ?_))))
   refine region_q hS
     (cF rfl (o_indexAddr_sl (sz := 4) (.mk Try.underlying114 (by kernel_rfl)) (by intro x; rfl) .t .t (by omega) (by omega)) r2 trivial
     (cF rfl (oR true 4 .t) r1 trivial
     (cF rfl (oH [.int .i64 0, .int .i64 0, .int .i64 0, .int .i64 0] 101) trivial trivial
     (cF rfl (oA 4 101 .same .t) r2 r1
     Chain.nil))))
     hB ?_
   clear hS; intro a w F hS
   replace hS := hS.sub
   obtain ⟨F, hS⟩ := hS.nm [14, 13, 12, 11, 10, 9, 5, 3, 2, 0] [101, 50, 1, 0] rfl rfl
   try dsimp only [RS.sub, SF.sub, CF.sub, csub, Anc.sub, List.map, stCells, xL, xM, Nat.reduceAdd, xD, xE, xT, xU, xC, xN, zCF, ldSF, rHist, rTx, rOrd, rVer, rInt, rOp, rEdge, rHv] at hS
   generalize Act.tau a 5 = v5 at hS
   try simp only [Int.toNat_natCast] at hS
   refine then_n ?_
   refine region_any (by kernel_rfl) hS (by kernel_rfl)
     (cF rfl (oM .t) r1 trivial
     (cF rfl (oL true 4 101 .is) r1 r1
     (cF rfl (oM .t) r1 trivial
     (cF rfl (oL true 4 101 .is) r1 r1
     (cF rfl (o_lookupG (ek := (fun n : Int => PV.int .i64 n)) (z0 := (0)) 1 Try.underlying87 keyEdge (by kernel_rfl) (fun _ _ => ⟨rfl, inR0⟩) .is (IsKeyOf.agg (enc := encEi) (k := Go.Gm.nth (keysG ltE (allE AA RR)) i) (.pagg .t) rfl)) r2 r1
     (cF rfl (oB [(0, .tmp 16), (1, .tmp 19)] [.int .i64 0, .int .i64 0, .int .i64 0, .int .i64 0, .int .i64 0] [(0, 4), (4, 1)] (.agg rfl .t (by kernel_rfl) (by kernel_rfl) (.one rfl .t one_int (by kernel_rfl) .nil))) r2 trivial
     (cF rfl (o_buildSliceE (sz := 5) (zs := [.int .i64 0, .int .i64 0, .int .i64 0, .int .i64 0, .int .i64 0]) (r := [(0, .tmp 20)]) (l := [_, _, _, _, _]) Try.underlying22 (by kernel_rfl) (by kernel_rfl) (by kernel_rfl) (by kernel_rfl) rfl rfl (.agg rfl .t (by kernel_rfl) (by kernel_rfl) .nil) rfl) r1 trivial
     (cF rfl (o_append (sz := 5) (bs := 40) 50 (.mk' Try.underlying22 (by kernel_rfl) (by kernel_rfl)) (by intro x; rfl) .is (.arr (l' := [(⟨Go.Gm.nth (keysG ltE (allE AA RR)) i, (gGet (Go.Gm.nth (keysG ltE (allE AA RR)) i) es).getD 0⟩ : HvD)]) .t) (by simp only [List.length_append, List.length_cons, List.length_nil]; omega) (by decide)) ⟨rfl, rfl, trivial⟩ ⟨rfl, trivial⟩
     (cF rfl (oN .t) r1 trivial
     Chain.nil)))))))))
     (by kernel_rfl) (by rw [hB]; kernel_rfl) ?_
   clear hS; intro a w F hS
   replace hS := hS.sub
   obtain ⟨F, hS⟩ := hS.nm [22, 21, 20, 19, 18, 17, 16, 15, 14, 13, 12, 11, 10, 9, 5, 3, 2, 0] [101, 50, 1, 0] rfl rfl
   try dsimp only [RS.sub, SF.sub, CF.sub, csub, Anc.sub, List.map, stCells, xL, xM, Nat.reduceAdd, xD, xE, xT, xU, xC, xN, zCF, ldSF, rHist, rTx, rOrd, rVer, rInt, rOp, rEdge, rHv] at hS
   generalize Act.tau a 22 = v22 at hS
   refine block_n (then_n ?_)
   refine region_q hS
     (cF rfl (o_add .t (.ci (by kernel_rfl))) r1 trivial
     (cF rfl (oM .t) r1 trivial
     Chain.nil))
     hB ?_
   clear hS; intro a w F hS
   obtain ⟨F, hS⟩ := hS.nm [23, 22, 21, 20, 19, 18, 17, 16, 15, 14, 13, 12, 11, 10, 9, 5, 3, 2, 0] [101, 50, 1, 0] rfl rfl
   try dsimp only [rHist, rTx, rOrd, rVer, rInt, rOp, rEdge, rHv] at hS
   refine then_n ?_
   replace hS := hS.ent (i := 11) (s' := .pv (.int .i64 ((i + 1 : Nat) : Int))) rfl (.int (wrap_succ (by omega)))
   obtain ⟨F, hS⟩ := hS.nm [10, 9, 2, 0, 3, 11] [1, 0, 50] rfl rfl
   exact ⟨((i + 1), _, _), F, ⟨by omega, (by rw [take_nth hil, List.map_append, ← hq, List.map_singleton]; unfold cntA; rw [hE.val])⟩, hS, by omega⟩
  have hil : i = (keysG ltE (allE AA RR)).length := by simp at hc0; omega
  refine wp_exit (then_x (then_x (block_x (then_n (wp_seq ?_)))))
  refine region_q hS
    (cF rfl (oM .t) r1 trivial
    (cF rfl (oN .t) r1 trivial
    Chain.nil))
    hB ?_
  clear hS; intro a w F hS
  obtain ⟨F, hS⟩ := hS.nm [2] [50, 1, 0] rfl rfl
  try dsimp only [rHist, rTx, rOrd, rVer, rInt, rOp, rEdge, rHv] at hS
  refine then_n (wp_ret ?_)
  obtain ⟨F, hS⟩ := hS.give 50 2 rfl rfl
  have hS := hS.turn 1 rfl (r' := RS.hp (edgH AA RR mv)) (fun _ _ _ _ h => ⟨(es, ck), hE, h⟩)
  refine ret_G1 hG hS rfl (.tmp rfl .nil) (.one (.sl (by rw [hq, hil, List.take_length]; rfl))) rfl

theorem edges1_c (x : Int) : FnP Try.prog 43 [.int .i64 x] (.bool ((fun _ => true) x)) := by
  refine FnP.mk Try.func43 rfl Try.ntmps43 rfl ?_
  intro B a w F hB hfr hS
  refine wp_seq ?_
  refine region_q hS
    (cF rfl (oN .cb) trivial trivial
    Chain.nil)
    hB ?_
  clear hS; intro a w F hS
  obtain ⟨F, hS⟩ := hS.nm [2] [0] rfl rfl
  try dsimp only [rHist, rTx, rOrd, rVer, rInt, rOp] at hS
  refine then_n (wp_seq ?_)
  refine region_q hS
    (cF rfl (oN .cb) trivial trivial
    Chain.nil)
    hB ?_
  clear hS; intro a w F hS
  obtain ⟨F, hS⟩ := hS.nm [2] [0] rfl rfl
  try dsimp only [rHist, rTx, rOrd, rVer, rInt, rOp] at hS
  refine then_n (wp_ret ?_)
  refine ret_P hfr hS rfl (.tmp rfl .nil) (.one (.bool rfl))

theorem edges_c (g : HistD) (hsm : Small g) (hAR : (wwC (fun _ => true) g).length + (rdC (fun _ => true) g).length ≤ 1000000) : FnP Try.prog 19 [.agg (rHist g)] (.sl rHv (edgesL (wwC (fun _ => true) g) (rdC (fun _ => true) g))) := by
  refine FnP.mk Try.func19 rfl Try.ntmps19 rfl ?_
  intro B a w F hB hfr hS
  refine wp_seq ?_
  refine region_q hS
    (cF rfl (oX 101 (.conv .t .agg)) r1 trivial
    (cF rfl (oN (.c rfl)) trivial trivial
    Chain.nil))
    hB ?_
  clear hS; intro a w F hS
  replace hS := hS.sub
  obtain ⟨F, hS⟩ := hS.nm [2, 1] [101, 0] rfl rfl
  try dsimp only [RS.sub, SF.sub, CF.sub, csub, Anc.sub, List.map, zCF, rHist, rTx, rOrd, rVer, rInt, rOp, rHv] at hS
  generalize Act.tau a 1 = v1 at hS
  refine then_n (wp_seq ?_)
  replace hS := hS.fresh 102 rfl
  refine part_first 2 hS (by kernel_rfl)
    (cG rfl (oL true 2 101 .is) r1 r1
    (cG rfl (o_callN 102 (counted_c g hsm (fun _ => true) 43 Try.f43 [] Try.func43 rfl (by kernel_rfl) (fun x => edges1_c x)) Try.func42 rfl (by kernel_rfl) (Args.two (.pagg .t) (.conv .f (Ent.fnClos))) pvOne1) r1 r1
    ChainN.nil))
    (by kernel_rfl) (by rw [hB]; kernel_rfl) ?_
  clear hS; intro a w F hS
  replace hS := hS.sub
  obtain ⟨F, hS⟩ := hS.nm [4, 2] [102, 101, 0] rfl rfl
  try dsimp only [RS.sub, SF.sub, CF.sub, csub, Anc.sub, List.map, xD, xE, xT, xU, ldSF, rHist, rTx, rOrd, rVer, rInt, rOp, rHv] at hS
  generalize Act.tau a 4 = v4 at hS
  replace hS := hS.turn 102 rfl (r' := RS.hp (edgH (wwC (fun _ => true) g) (rdC (fun _ => true) g) v4)) (fun _ _ _ _ h => h)
  obtain ⟨F, hS⟩ := hS.nm [4, 2] [102, 101, 0] rfl rfl
  refine part_last hS (by kernel_rfl)
    (cG rfl (o_callG1 102 (list_c _ (wwC (fun _ => true) g) (rdC (fun _ => true) g) hAR) Try.func41 rfl (by kernel_rfl) (Args.one .t)) r1 r1
    (cG rfl (oN .t) r1 trivial
    ChainN.nil))
    (by kernel_rfl) (by rw [hB]; kernel_rfl) ?_
  clear hS; intro a w F hS
  obtain ⟨F, hS⟩ := hS.nm [2] [102, 101, 0] rfl rfl
  try dsimp only [rHist, rTx, rOrd, rVer, rInt, rOp, rHv] at hS
  refine then_n (wp_ret ?_)
  refine ret_P hfr hS rfl (.tmp rfl .nil) (.one .refl)

end Go.Proofs.Ytpnaolljmhhdbaa
