/- With, without; the document on orders. No condition beyond those that each theorem says. -/
import Derived.Test.YtpjjmolibanakaaGreatOr3
namespace Go.Proofs.YtpjjmolibanakaaGreat
open Go Go.Gm
set_option linter.unusedVariables false
set_option linter.unusedSimpArgs false
set_option maxHeartbeats 4000000
set_option maxRecDepth 8000


theorem owith_c (l : List Int) (tx : Int) (hl : l.length ≤ 1000000) : FnP Tryz.prog 101 [.sl rInt l, .int .i64 tx] (.sl rInt (withO l tx)) := by
  refine FnP.mk Tryz.func101 rfl Tryz.ntmps101 rfl ?_
  intro B a w F hB hfr hS
  have hll := Sat.lenSl hS (i := 0) rfl
  refine wp_seq ?_
  refine region_q hS
    (cF rfl (oN (.c rfl)) trivial trivial
    Chain.nil)
    hB ?_
  clear hS; intro a w F hS
  obtain ⟨F, hS⟩ := hS.nm [4, 1, 0] [0] rfl rfl
  try dsimp only [rInt] at hS
  refine then_n (wp_seq ?_)
  replace hS := hS.fresh 101 rfl
  refine region_q hS
    (cF rfl (oM .t) r1 trivial
    (cF rfl (o_callN 101 (cloneI_c l hl) Tryz.func47 rfl (by kernel_rfl) (Args.one .t) pvOne1) r1 r1
    (cF rfl (oN .t) r1 trivial
    Chain.nil)))
    hB ?_
  clear hS; intro a w F hS
  replace hS := hS.sub
  obtain ⟨F, hS⟩ := hS.nm [5, 4, 1, 0] [101, 0] rfl rfl
  try dsimp only [RS.sub, SF.sub, CF.sub, csub, Anc.sub, List.map, rInt] at hS
  generalize Act.tau a 7 = v7 at hS
  refine then_n (wp_seq (wp_seq ?_))
  refine region_q hS
    (cF rfl (oM .t) r1 trivial
    (cF rfl (oM .t) r1 trivial
    (cF rfl (oP (contains_c l tx) Tryz.func130 (Args.two .t .t)) r2 trivial
    Chain.nil)))
    hB ?_
  clear hS; intro a w F hS
  obtain ⟨F, hS⟩ := hS.nm [10, 5, 4, 1] [101, 0] rfl rfl
  try dsimp only [rInt] at hS
  refine then_n ?_
  refine cond_b hS rfl (fun hc0 => ?_) (fun hc0 => ?_)
  ·skip
   have hm : tx ∈ l := by simpa using hc0
   have hg : l = withO l tx := (if_pos hm).symm
   refine wp_seq ?_
   refine region_q hS
     (cF rfl (oM .t) r1 trivial
     (cF rfl (oN .t) r1 trivial
     Chain.nil))
     hB ?_
   clear hS; intro a w F hS
   obtain ⟨F, hS⟩ := hS.nm [5, 4, 1] [101, 0] rfl rfl
   try dsimp only [rInt] at hS
   refine then_n (wp_ret (then_r ?_))
   obtain ⟨F, hS⟩ := hS.give 101 4 rfl rfl
   refine ret_P hfr hS rfl (.tmp rfl .nil) (.one (.sl hg))
  have hm : ¬ tx ∈ l := by simpa using hc0
  have hg : l ++ [tx] = withO l tx := (if_neg hm).symm
  refine wp_skip (then_n (wp_seq ?_))
  refine region_q hS
    (cF rfl (oM .t) r1 trivial
    (cF rfl (oM .t) r1 trivial
    (cF rfl (o_buildSliceE (sz := 1) (zs := [.int .i64 0]) (r := [(0, .tmp 13)]) (l := [_]) Tryz.underlying37 (by kernel_rfl) (by kernel_rfl) (by kernel_rfl) (by kernel_rfl) rfl rfl (.one rfl .t one_int (by kernel_rfl) .nil) rfl) r1 trivial
    (cF rfl (o_append (sz := 1) (bs := 8) 101 (.mk' Tryz.underlying37 (by kernel_rfl) (by kernel_rfl)) (by intro x; rfl) .is (.arr (l' := [_]) .t) (by simp only [List.length_append, List.length_cons, List.length_nil, List.length_take, List.length_drop]; omega) (by decide)) ⟨rfl, rfl, trivial⟩ ⟨rfl, trivial⟩
    (cF rfl (oN .t) r1 trivial
    Chain.nil)))))
    hB ?_
  clear hS; intro a w F hS
  replace hS := hS.sub
  obtain ⟨F, hS⟩ := hS.nm [4] [101, 0] rfl rfl
  try dsimp only [RS.sub, SF.sub, CF.sub, csub, Anc.sub, List.map, stCells, xL, xM, Nat.reduceAdd, xD, xE, xT, xU, xC, xN, zCF, rInt] at hS
  generalize Act.tau a 15 = v15 at hS
  refine then_n (wp_ret ?_)
  obtain ⟨F, hS⟩ := hS.give 101 4 rfl rfl
  refine ret_P hfr hS rfl (.tmp rfl .nil) (.one (.sl hg))

theorem without1_c (x tx : Int) : FnP Tryz.prog 132 [.int .i64 x, .ref [.int .i64 tx]] (.bool (decide (x = tx))) := by
  refine FnP.mk Tryz.func132 rfl Tryz.ntmps132 rfl ?_
  intro B a w F hB hfr hS
  refine wp_seq ?_
  refine region_q hS
    (cF rfl (oN .cb) trivial trivial
    Chain.nil)
    hB ?_
  clear hS; intro a w F hS
  obtain ⟨F, hS⟩ := hS.nm [3, 1, 0] [0] rfl rfl
  try dsimp only [rInt] at hS
  refine then_n (wp_seq ?_)
  refine region_q hS
    (cF rfl (oM .t) r1 trivial
    (cF rfl (oR false 1 .t) r1 trivial
    (cF rfl (o_eql .t .t) r2 trivial
    (cF rfl (oN .t) r1 trivial
    Chain.nil))))
    hB ?_
  clear hS; intro a w F hS
  obtain ⟨F, hS⟩ := hS.nm [3] [0] rfl rfl
  try dsimp only [List.map, xD, xE, xT, xU, ldSF, rInt] at hS
  refine then_n (wp_ret ?_)
  refine ret_P hfr hS rfl (.tmp rfl .nil) (.one .refl)

theorem owithout_c (l : List Int) (tx : Int) (hl : l.length ≤ 1000000) : FnP Tryz.prog 102 [.sl rInt l, .int .i64 tx] (.sl rInt (withoutO l tx)) := by
  refine FnP.mk Tryz.func102 rfl Tryz.ntmps102 rfl ?_
  intro B a w F hB hfr hS
  have hll := Sat.lenSl hS (i := 0) rfl
  refine wp_seq ?_
  refine region_q hS
    (cF rfl (o_box1 101 .t one_int) r1 trivial
    (cF rfl (oN (.c rfl)) trivial trivial
    Chain.nil))
    hB ?_
  clear hS; intro a w F hS
  replace hS := hS.sub
  obtain ⟨F, hS⟩ := hS.nm [4, 3, 0] [101, 0] rfl rfl
  try dsimp only [RS.sub, SF.sub, CF.sub, csub, Anc.sub, List.map, zCF, rInt] at hS
  generalize Act.tau a 3 = v3 at hS
  obtain ⟨F, hS⟩ := hS.giveRef 101 3 rfl rfl rfl
  obtain ⟨F, hS⟩ := hS.nm [4, 3, 0] [0] rfl rfl
  try dsimp only [Go.Gm.unCF] at hS
  refine then_n (wp_seq ?_)
  replace hS := hS.fresh 102 rfl
  refine region_seqN hS (by kernel_rfl)
    (cG rfl (oM .t) r1 trivial
    (cG rfl (o_callN 102 (cloneI_c l hl) Tryz.func47 rfl (by kernel_rfl) (Args.one .t) pvOne1) r1 r1
    (ChainN.norm [(3, _), (4, _), (6, _)] [(0, _), (102, _)] r3 r2
    (cG rfl (o_makeFunc (Args.one .t)) r1 trivial
    (cG rfl (o_callFN 6 102 (fun v => delFI_c _ l hl (fun x => decide (x = tx)) 132 Tryz.f132 [.ref [.int .i64 tx]] Tryz.func132 rfl (by kernel_rfl) (fun x => without1_c x tx)) Tryz.func131 rfl (by kernel_rfl) (ArgsF.two .same (.of .t)) pvOne1) r2 r1
    (ChainN.norm [(4, _), (8, _)] [(0, _), (102, _)] r2 r2
    (cG rfl (oN .t) r1 trivial
    ChainN.nil)))))))
    (by kernel_rfl) (by rw [hB]; kernel_rfl) ?_
  clear hS; intro a w F hS
  replace hS := hS.sub
  obtain ⟨F, hS⟩ := hS.nm [4] [102, 0] rfl rfl
  try dsimp only [RS.sub, SF.sub, CF.sub, csub, Anc.sub, List.map, rInt] at hS
  generalize Act.tau a 8 = v8 at hS
  refine then_n (wp_ret ?_)
  obtain ⟨F, hS⟩ := hS.give 102 4 rfl rfl
  refine ret_P hfr hS rfl (.tmp rfl .nil) (.one (.sl (by simp [withoutO])))

end Go.Proofs.YtpjjmolibanakaaGreat
