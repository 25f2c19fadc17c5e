/- Reads twice: the example. No condition beyond those that each theorem says. -/
import Derived.Test.YtpnaolljmhhdbaaKc4
import Derived.Test.YtpnaolljmhhdbaaTw2
namespace Go.Proofs.Ytpnaolljmhhdbaa
open Go Go.Gm
set_option linter.unusedVariables false
set_option linter.unusedSimpArgs false
set_option maxHeartbeats 4000000
set_option maxRecDepth 8000

theorem small16_c  : FnP Try.prog 36 [] (.agg (rHist (⟨[⟨1, true, [⟨false, 5, 0, 0⟩]⟩, ⟨2, true, [⟨false, 5, 0, 0⟩, ⟨true, 5, 1, 1⟩]⟩, ⟨3, true, [⟨true, 5, 0, 0⟩, ⟨true, 5, 0, 0⟩]⟩], [⟨5, [1, 2]⟩]⟩ : HistD))) := by
  refine FnP.mk Try.func36 rfl Try.ntmps36 rfl ?_
  intro B a w F hB hfr hS
  refine wp_seq ?_
  refine region_q hS
    (cF rfl (oH [.slice none 0 0, .slice none 0 0] 101) trivial trivial
    Chain.nil)
    hB ?_
  clear hS; intro a w F hS
  replace hS := hS.sub
  obtain ⟨F, hS⟩ := hS.nm [0] [101, 0] rfl rfl
  try dsimp only [RS.sub, SF.sub, CF.sub, csub, Anc.sub, List.map, zCF, rHist, rTx, rOrd, rVer, rInt, rOp] at hS
  generalize Act.tau a 0 = v0 at hS
  refine then_n (wp_seq ?_)
  refine region_q hS
    (cF rfl (oB [(0, _), (1, _)] [.bool false, .int .i64 0, .int .i64 0, .int .i64 0] [(0, 1), (1, 1), (2, 1), (3, 1)] (.one rfl .cb one_bool (by kernel_rfl) (.one rfl (.ci (by kernel_rfl)) one_int (by kernel_rfl) .nil))) trivial trivial
    (cF rfl (oH [.bool false, .int .i64 0, .int .i64 0, .int .i64 0] 102) trivial trivial
    (cF rfl (oA 4 102 .same .t) r2 r1
    Chain.nil)))
    hB ?_
  clear hS; intro a w F hS
  replace hS := hS.sub
  obtain ⟨F, hS⟩ := hS.nm [1, 0] [102, 101, 0] rfl rfl
  try dsimp only [RS.sub, SF.sub, CF.sub, csub, Anc.sub, List.map, stCells, xL, xM, Nat.reduceAdd, xD, xE, xT, xU, xC, xN, zCF, rHist, rTx, rOrd, rVer, rInt, rOp] at hS
  generalize Act.tau a 1 = v1 at hS
  refine then_n (wp_seq ?_)
  refine region_q hS
    (cF rfl (oB [(1, _)] [.bool false, .int .i64 0, .int .i64 0, .int .i64 0] [(0, 1), (1, 1), (2, 1), (3, 1)] (.one rfl (.ci (by kernel_rfl)) one_int (by kernel_rfl) .nil)) trivial trivial
    (cF rfl (o_buildSliceE (sz := 4) (zs := [.bool false, .int .i64 0, .int .i64 0, .int .i64 0]) (r := [(0, .tmp 3)]) (l := [_, _, _, _]) Try.underlying73 (by kernel_rfl) (by kernel_rfl) (by kernel_rfl) (by kernel_rfl) rfl rfl (.agg rfl .t (by kernel_rfl) (by kernel_rfl) .nil) rfl) r1 trivial
    (cF rfl (oB [(0, _), (1, _), (2, .tmp 4)] [.int .i64 0, .bool false, .slice none 0 0] [(0, 1), (1, 1), (2, 1)] (.one rfl (.ci (by kernel_rfl)) one_int (by kernel_rfl) (.one rfl .cb one_bool (by kernel_rfl) (.one rfl .t one_arr (by kernel_rfl) .nil)))) r1 trivial
    (cF rfl (oB [(1, _)] [.bool false, .int .i64 0, .int .i64 0, .int .i64 0] [(0, 1), (1, 1), (2, 1), (3, 1)] (.one rfl (.ci (by kernel_rfl)) one_int (by kernel_rfl) .nil)) trivial trivial
    (cF rfl (oB [(0, _), (1, _), (2, _), (3, _)] [.bool false, .int .i64 0, .int .i64 0, .int .i64 0] [(0, 1), (1, 1), (2, 1), (3, 1)] (.one rfl .cb one_bool (by kernel_rfl) (.one rfl (.ci (by kernel_rfl)) one_int (by kernel_rfl) (.one rfl (.ci (by kernel_rfl)) one_int (by kernel_rfl) (.one rfl (.ci (by kernel_rfl)) one_int (by kernel_rfl) .nil))))) trivial trivial
    (cF rfl (o_buildSliceE (sz := 4) (zs := [.bool false, .int .i64 0, .int .i64 0, .int .i64 0]) (r := [(0, .tmp 6), (1, .tmp 7)]) (l := [_, _, _, _, _, _, _, _]) Try.underlying73 (by kernel_rfl) (by kernel_rfl) (by kernel_rfl) (by kernel_rfl) rfl rfl (.agg rfl .t (by kernel_rfl) (by kernel_rfl) (.agg rfl .t (by kernel_rfl) (by kernel_rfl) .nil)) rfl) r2 trivial
    (cF rfl (oB [(0, _), (1, _), (2, .tmp 8)] [.int .i64 0, .bool false, .slice none 0 0] [(0, 1), (1, 1), (2, 1)] (.one rfl (.ci (by kernel_rfl)) one_int (by kernel_rfl) (.one rfl .cb one_bool (by kernel_rfl) (.one rfl .t one_arr (by kernel_rfl) .nil)))) r1 trivial
    (cF rfl (oL true 4 102 .is) r1 r1
    (cF rfl (oL true 4 102 .is) r1 r1
    (cF rfl (o_buildSliceE (sz := 4) (zs := [.bool false, .int .i64 0, .int .i64 0, .int .i64 0]) (r := [(0, .tmp 10), (1, .tmp 11)]) (l := [_, _, _, _, _, _, _, _]) Try.underlying73 (by kernel_rfl) (by kernel_rfl) (by kernel_rfl) (by kernel_rfl) rfl rfl (.agg rfl .t (by kernel_rfl) (by kernel_rfl) (.agg rfl .t (by kernel_rfl) (by kernel_rfl) .nil)) rfl) r2 trivial
    (cF rfl (oB [(0, _), (1, _), (2, .tmp 12)] [.int .i64 0, .bool false, .slice none 0 0] [(0, 1), (1, 1), (2, 1)] (.one rfl (.ci (by kernel_rfl)) one_int (by kernel_rfl) (.one rfl .cb one_bool (by kernel_rfl) (.one rfl .t one_arr (by kernel_rfl) .nil)))) r1 trivial
    (cF rfl (o_buildSliceE (sz := 3) (zs := [.int .i64 0, .bool false, .slice none 0 0]) (r := [(0, .tmp 5), (1, .tmp 9), (2, .tmp 13)]) (l := [_, _, _, _, _, _, _, _, _]) Try.underlying39 (by kernel_rfl) (by kernel_rfl) (by kernel_rfl) (by kernel_rfl) rfl rfl (.agg rfl .t (by kernel_rfl) (by kernel_rfl) (.agg rfl .t (by kernel_rfl) (by kernel_rfl) (.agg rfl .t (by kernel_rfl) (by kernel_rfl) .nil))) rfl) r3 trivial
    (cF rfl (o_buildSliceE (sz := 1) (zs := [.int .i64 0]) (r := [(0, _), (1, _)]) (l := [_, _]) Try.underlying76 (by kernel_rfl) (by kernel_rfl) (by kernel_rfl) (by kernel_rfl) rfl rfl (.one rfl (.ci (by kernel_rfl)) one_int (by kernel_rfl) (.one rfl (.ci (by kernel_rfl)) one_int (by kernel_rfl) .nil)) rfl) trivial trivial
    (cF rfl (oB [(0, _), (1, .tmp 15)] [.int .i64 0, .slice none 0 0] [(0, 1), (1, 1)] (.one rfl (.ci (by kernel_rfl)) one_int (by kernel_rfl) (.one rfl .t one_arr (by kernel_rfl) .nil))) r1 trivial
    (cF rfl (o_buildSliceE (sz := 2) (zs := [.int .i64 0, .slice none 0 0]) (r := [(0, .tmp 16)]) (l := [_, _]) Try.underlying40 (by kernel_rfl) (by kernel_rfl) (by kernel_rfl) (by kernel_rfl) rfl rfl (.agg rfl .t (by kernel_rfl) (by kernel_rfl) .nil) rfl) r1 trivial
    (cF rfl (oB [(0, .tmp 14), (1, .tmp 17)] [.slice none 0 0, .slice none 0 0] [(0, 1), (1, 1)] (.one rfl .t one_arr (by kernel_rfl) (.one rfl .t one_arr (by kernel_rfl) .nil))) r2 trivial
    (cF rfl (oA 2 101 .is .t) r2 r1
    Chain.nil)))))))))))))))))
    hB ?_
  clear hS; intro a w F hS
  obtain ⟨F, hS⟩ := hS.nm [0] [102, 101, 0] rfl rfl
  try dsimp only [List.map, stCells, xL, xM, Nat.reduceAdd, xD, xE, xT, xU, xC, xN, zCF, ldSF, rHist, rTx, rOrd, rVer, rInt, rOp] at hS
  refine then_n (wp_ret ?_)
  refine ret_P hfr hS rfl (.cell (n := 101) (ag := true) (sz := 2) rfl .is rfl (by kernel_rfl) (by kernel_rfl) (by kernel_rfl) .nil) (.one (.aggLe rfl ⟨.arrSl (R := rTx) (l' := [⟨1, true, [⟨false, 5, 0, 0⟩]⟩, ⟨2, true, [⟨false, 5, 0, 0⟩, ⟨true, 5, 1, 1⟩]⟩, ⟨3, true, [⟨true, 5, 0, 0⟩, ⟨true, 5, 0, 0⟩]⟩]) rfl ⟨.refl, .refl, .arrSl (R := rOp) (l' := [⟨false, 5, 0, 0⟩]) rfl PVsLe.refl, .refl, .refl, .arrSl (R := rOp) (l' := [⟨false, 5, 0, 0⟩, ⟨true, 5, 1, 1⟩]) rfl PVsLe.refl, .refl, .refl, .arrSl (R := rOp) (l' := [⟨true, 5, 0, 0⟩, ⟨true, 5, 0, 0⟩]) rfl PVsLe.refl, trivial⟩, .arrSl (R := rOrd) (l' := [⟨5, [1, 2]⟩]) rfl ⟨.refl, .arrSl (R := rInt) (l' := [1, 2]) rfl PVsLe.refl, trivial⟩, trivial⟩))

theorem small16 : Small (⟨[⟨1, true, [⟨false, 5, 0, 0⟩]⟩, ⟨2, true, [⟨false, 5, 0, 0⟩, ⟨true, 5, 1, 1⟩]⟩, ⟨3, true, [⟨true, 5, 0, 0⟩, ⟨true, 5, 0, 0⟩]⟩], [⟨5, [1, 2]⟩]⟩ : HistD) := ⟨⟨by decide, by decide⟩, by decide, by decide⟩
theorem ww_len {p : Int → Bool} {g : HistD} (hs : Small g) : (wwC p g).length ≤ 1000 * g.orders.length := by
  unfold wwC
  split
  · have key : ∀ l : List OrdD, (∀ o ∈ l, o.txs.length ≤ 1000) → (wwA p l).length ≤ 1000 * l.length := by
      intro l
      induction l with
      | nil => intro _; simp [wwA]
      | cons o l ih =>
        intro h
        have h1 := ih fun x hx => h x (by simp [hx])
        have h2 := h o (by simp)
        unfold wwA at h1 ⊢
        rw [List.flatMap_cons, List.length_append, List.length_cons]
        split
        · have h3 : (wwO o (o.txs.length - 1)).length = o.txs.length - 1 := by unfold wwO; rw [List.length_map, List.length_range]
          omega
        · simp only [List.length_nil]; omega
    exact key _ hs.2.2
  · simp
theorem rd_len {p : Int → Bool} {g : HistD} (hs : Small g) : (rdC p g).length ≤ 2000 * g.txs.length := by
  unfold rdC
  split
  · have h1 := rdH_len (p := p) (g := g) hs.1 g.txs.length
    rwa [List.take_length] at h1
  · simp
theorem begins08_c  : FnP Try.prog 14 [] (.bool true) := by
  refine FnP.mk Try.func14 rfl Try.ntmps14 rfl ?_
  intro B a w F hB hfr hS
  refine wp_seq ?_
  refine region_q hS
    (cF rfl (oN .cb) trivial trivial
    Chain.nil)
    hB ?_
  clear hS; intro a w F hS
  obtain ⟨F, hS⟩ := hS.nm [0] [0] rfl rfl
  try dsimp only [rHist, rTx, rOrd, rVer, rInt, rOp] at hS
  refine then_n (wp_seq ?_)
  refine region_q hS
    (cF rfl (oP (small16_c) Try.func36 Args.nil) trivial trivial
    (cF rfl (oP (edges_c (⟨[⟨1, true, [⟨false, 5, 0, 0⟩]⟩, ⟨2, true, [⟨false, 5, 0, 0⟩, ⟨true, 5, 1, 1⟩]⟩, ⟨3, true, [⟨true, 5, 0, 0⟩, ⟨true, 5, 0, 0⟩]⟩], [⟨5, [1, 2]⟩]⟩ : HistD) small16 (by decide +kernel)) Try.func19 (Args.one .t)) r1 trivial
    (cF rfl (o_len_sl Try.underlying22 .t) r1 trivial
    (cF rfl (o_eql .t (.ci (by kernel_rfl))) r1 trivial
    (cF rfl (oN .t) r1 trivial
    Chain.nil)))))
    hB ?_
  clear hS; intro a w F hS
  obtain ⟨F, hS⟩ := hS.nm [0] [0] rfl rfl
  try dsimp only [rHist, rTx, rOrd, rVer, rInt, rOp] at hS
  refine then_n (wp_ret ?_)
  refine ret_P hfr hS rfl (.tmp rfl .nil) (.one (.bool (by decide +kernel)))

end Go.Proofs.Ytpnaolljmhhdbaa
