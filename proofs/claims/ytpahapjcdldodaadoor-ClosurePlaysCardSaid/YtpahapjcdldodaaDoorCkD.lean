/- The closure: lives. No condition beyond those that each theorem says. -/
import Derived.Test.YtpahapjcdldodaaDoorCkC
namespace Go.Proofs.YtpahapjcdldodaaDoor
open Go Go.Gm
set_option linter.unusedVariables false
set_option linter.unusedSimpArgs false
set_option maxHeartbeats 4000000
set_option maxRecDepth 8000


theorem add_lit (b n : Nat) (q : List PairD) (last : List Int) (u v : Int) (q' : List PairD) (last' : List Int) (e : Int) (h : stepQ n q ⟨0, u, v⟩ = (q', e)) (h2 : lastD n q last ⟨0, u, v⟩ = last') (hl : q.length < 1000000) : FnG Tryd.prog 12 1 [.is (.pointer (some ⟨b, 0, none⟩)), .int .i64 u, .int .i64 v] [clH (.pointer (some ⟨b, 0, none⟩)) n q last] (.int .i64 e) (fun _ => [clH (.pointer (some ⟨b, 0, none⟩)) n q' last']) := by
  have k := add_c b n q last u v hl
  rw [h, h2] at k; exact k
theorem drop_lit (b n : Nat) (q : List PairD) (last : List Int) (u v : Int) (q' : List PairD) (last' : List Int) (e : Int) (h : stepQ n q ⟨1, u, v⟩ = (q', e)) (h2 : lastD n q last ⟨1, u, v⟩ = last') : FnG Tryd.prog 13 1 [.is (.pointer (some ⟨b, 0, none⟩)), .int .i64 u, .int .i64 v] [clH (.pointer (some ⟨b, 0, none⟩)) n q last] (.int .i64 e) (fun _ => [clH (.pointer (some ⟨b, 0, none⟩)) n q' last']) := by
  have k := drop_c b n q last u v
  rw [h, h2] at k; exact k

theorem add_nil (u v : Int) : FnP Tryd.prog 12 [.is (.pointer none), .int .i64 u, .int .i64 v] (.int .i64 1) := by
  refine FnP.mk Tryd.func12 rfl Tryd.ntmps12 rfl ?_
  intro B a w F hB hfr hS
  refine wp_seq ?_
  refine region_q hS
    (cF rfl (oN (.ci (by kernel_rfl))) trivial trivial
    Chain.nil)
    hB ?_
  clear hS; intro a w F hS
  obtain ⟨F, hS⟩ := hS.nm [6, 2, 1, 0] [0] rfl rfl
  refine then_n (wp_seq (wp_block (wp_seq ?_)))
  refine region_q hS
    (cF rfl (oM .t) r1 trivial
    (cF rfl (oM .t) r1 trivial
    (cF rfl (oP (node_nil _) Tryd.func44 (Args.two .t .t)) r2 trivial
    (cF rfl (o_not .t) r1 trivial
    (cF rfl (oM .t) r1 trivial
    (Chain.cons (Cert.cond rfl rfl (fun h => o_move .t (by rfl))) r2 trivial
    (Chain.cons (Cert.cond rfl rfl (fun h => o_move .t (by rfl))) r2 trivial
    (Chain.cons (Cert.cond rfl rfl (fun h => o_callP (node_nil _) Tryd.func44 rfl (by kernel_rfl) (Args.two (.w h) (.w h)))) r3 trivial
    (Chain.cons (Cert.cond rfl rfl (fun h => o_not (.w h))) r2 trivial
    (cF rfl (o_or2 .t .t) r2 trivial
    (cF rfl (oN .t) r1 trivial
    Chain.nil)))))))))))
    hB ?_
  clear hS; intro a w F hS
  obtain ⟨F, hS⟩ := hS.nm [9, 6, 2, 1, 0] [0] rfl rfl
  refine then_n ?_
  refine cond_b hS rfl (fun hc0 => ?_) (fun hc0 => ?_)
  ·skip
   refine wp_seq ?_
   refine region_q hS
     (cF rfl (oN (.ci (by kernel_rfl))) trivial trivial
     Chain.nil)
     hB ?_
   clear hS; intro a w F hS
   obtain ⟨F, hS⟩ := hS.nm [6, 2, 1, 0] [0] rfl rfl
   refine then_n (wp_ret (block_r (then_r ?_)))
   refine ret_P hfr hS rfl (.tmp rfl .nil) (.one .refl)
  simp at hc0

theorem lives_c  : FnPg Tryd.prog tabP tabV 8 [] (.bool true) := by
  refine FnPg.mk Tryd.func8 rfl Tryd.ntmps8 rfl ?_
  intro B a w F hB hfr hS
  refine wp_seq ?_
  refine region_q hS
    (cF rfl (oN .cb) trivial trivial
    Chain.nil)
    hB ?_
  clear hS; intro a w F hS
  obtain ⟨F, hS⟩ := hS.nm [0] [9, 0] rfl rfl
  refine then_n (wp_seq ?_)
  replace hS := hS.dupG 9 61 rfl rfl
  refine region_q hS
    (cF rfl (o_callNg 61 (cnew_c 3) Tryd.func7 rfl (by kernel_rfl) (Args.one (.ci (by kernel_rfl))) PV.ptr_one) trivial r1
    (cF rfl (oN .t) r1 trivial
    Chain.nil))
    hB ?_
  clear hS; intro a w F hS
  replace hS := hS.sub
  obtain ⟨F, hS⟩ := hS.nm [1, 0] [61, 9, 0] rfl rfl
  try dsimp only [RS.sub, SF.sub, CF.sub, csub, Anc.sub, List.map] at hS
  generalize Act.tau a 17 = v17 at hS
  obtain ⟨_, _, _, ho⟩ := hS.obGet 61 rfl
  obtain ⟨b1, rfl⟩ := clH_ptr ho
  clear ho
  replace hS := hS.turn 61 rfl (r' := RS.hp (clH (.pointer (some ⟨b1, 0, none⟩)) (roomN 3) [] [])) (fun _ _ _ _ h => h)
  obtain ⟨F, hS⟩ := hS.nm [1, 0] [61, 9, 0] rfl rfl
  rw [show roomN 3 = 3 from rfl] at hS
  refine then_n (wp_seq (wp_seq ?_))
  refine region_q hS
    (cF rfl (oM .t) r1 trivial
    (cF rfl (o_nil_eql _ Tryd.underlying23 rfl .t) r1 trivial
    Chain.nil))
    hB ?_
  clear hS; intro a w F hS
  obtain ⟨F, hS⟩ := hS.nm [19, 1, 0] [61, 9, 0] rfl rfl
  refine then_n ?_
  refine cond_b hS rfl (fun hc0 => ?_) (fun hc0 => ?_)
  ·skip
   simp at hc0
  refine wp_skip (then_n (wp_seq ?_))
  refine region_q hS
    (cF rfl (oM .t) r1 trivial
    (cF rfl (o_callG1 61 (last_c b1 3 [] []) Tryd.func19 rfl (by kernel_rfl) (Args.one .t)) r1 r1
    (cF rfl (o_len_sl Tryd.underlying30 .t) r1 trivial
    (cF rfl (oN .t) r1 trivial
    Chain.nil))))
    hB ?_
  clear hS; intro a w F hS
  obtain ⟨F, hS⟩ := hS.nm [2, 1, 0] [61, 9, 0] rfl rfl
  refine then_n (wp_seq ?_)
  refine region_q hS
    (cF rfl (oM .t) r1 trivial
    (cF rfl (o_callG1 61 (add_lit b1 3 [] [] 0 1 [(⟨0, 1⟩ : PairD)] [0] 0 (by decide +kernel) (by decide +kernel) (by decide)) Tryd.func12 rfl (by kernel_rfl) (Args.three .t (.ci (by kernel_rfl)) (.ci (by kernel_rfl)))) r1 r1
    (cF rfl (oM .t) r1 trivial
    (cF rfl (o_callG1 61 (add_lit b1 3 [(⟨0, 1⟩ : PairD)] [0] 1 2 [(⟨0, 1⟩ : PairD), (⟨1, 2⟩ : PairD)] [0, 1] 0 (by decide +kernel) (by decide +kernel) (by decide)) Tryd.func12 rfl (by kernel_rfl) (Args.three .t (.ci (by kernel_rfl)) (.ci (by kernel_rfl)))) r1 r1
    (cF rfl (oN .t) r1 trivial
    (cF rfl (oN .t) r1 trivial
    Chain.nil))))))
    hB ?_
  clear hS; intro a w F hS
  obtain ⟨F, hS⟩ := hS.nm [4, 3, 2, 1, 0] [61, 9, 0] rfl rfl
  refine then_n (wp_seq ?_)
  refine region_q hS
    (cF rfl (oM .t) r1 trivial
    (cF rfl (o_callG1 61 (crow_c b1 3 [(⟨0, 1⟩ : PairD), (⟨1, 2⟩ : PairD)] [0, 1] 0) Tryd.func20 rfl (by kernel_rfl) (Args.two .t (.ci (by kernel_rfl)))) r1 r1
    (cF rfl (oN .t) r1 trivial
    Chain.nil)))
    hB ?_
  clear hS; intro a w F hS
  obtain ⟨F, hS⟩ := hS.nm [5, 4, 3, 2, 1, 0] [61, 9, 0] rfl rfl
  refine then_n (wp_seq ?_)
  refine region_q hS
    (cF rfl (oM .t) r1 trivial
    (cF rfl (o_callG1 61 (add_lit b1 3 [(⟨0, 1⟩ : PairD), (⟨1, 2⟩ : PairD)] [0, 1] 2 0 [(⟨0, 1⟩ : PairD), (⟨1, 2⟩ : PairD), (⟨2, 0⟩ : PairD)] [0, 1, 2] 0 (by decide +kernel) (by decide +kernel) (by decide)) Tryd.func12 rfl (by kernel_rfl) (Args.three .t (.ci (by kernel_rfl)) (.ci (by kernel_rfl)))) r1 r1
    (cF rfl (oN .t) r1 trivial
    Chain.nil)))
    hB ?_
  clear hS; intro a w F hS
  obtain ⟨F, hS⟩ := hS.nm [6, 5, 4, 3, 2, 1, 0] [61, 9, 0] rfl rfl
  refine then_n (wp_seq ?_)
  refine region_q hS
    (cF rfl (oM .t) r1 trivial
    (cF rfl (o_callG1 61 (last_c b1 3 [(⟨0, 1⟩ : PairD), (⟨1, 2⟩ : PairD), (⟨2, 0⟩ : PairD)] [0, 1, 2]) Tryd.func19 rfl (by kernel_rfl) (Args.one .t)) r1 r1
    (cF rfl (oN .t) r1 trivial
    Chain.nil)))
    hB ?_
  clear hS; intro a w F hS
  obtain ⟨F, hS⟩ := hS.nm [7, 6, 5, 4, 3, 2, 1, 0] [61, 9, 0] rfl rfl
  refine then_n (wp_seq ?_)
  refine region_q hS
    (cF rfl (oM .t) r1 trivial
    (cF rfl (o_callG1 61 (add_lit b1 3 [(⟨0, 1⟩ : PairD), (⟨1, 2⟩ : PairD), (⟨2, 0⟩ : PairD)] [0, 1, 2] 3 0 [(⟨0, 1⟩ : PairD), (⟨1, 2⟩ : PairD), (⟨2, 0⟩ : PairD)] [0, 1, 2] 1 (by decide +kernel) (by decide +kernel) (by decide)) Tryd.func12 rfl (by kernel_rfl) (Args.three .t (.ci (by kernel_rfl)) (.ci (by kernel_rfl)))) r1 r1
    (cF rfl (oM .t) r1 trivial
    (cF rfl (o_callG1 61 (drop_lit b1 3 [(⟨0, 1⟩ : PairD), (⟨1, 2⟩ : PairD), (⟨2, 0⟩ : PairD)] [0, 1, 2] 1 0 [(⟨0, 1⟩ : PairD), (⟨1, 2⟩ : PairD), (⟨2, 0⟩ : PairD)] [0, 1, 2] 3 (by decide +kernel) (by decide +kernel)) Tryd.func13 rfl (by kernel_rfl) (Args.three .t (.ci (by kernel_rfl)) (.ci (by kernel_rfl)))) r1 r1
    (cF rfl (oM .t) r1 trivial
    (cF rfl (o_callG1 61 (drop_lit b1 3 [(⟨0, 1⟩ : PairD), (⟨1, 2⟩ : PairD), (⟨2, 0⟩ : PairD)] [0, 1, 2] (-1) 0 [(⟨0, 1⟩ : PairD), (⟨1, 2⟩ : PairD), (⟨2, 0⟩ : PairD)] [0, 1, 2] 1 (by decide +kernel) (by decide +kernel)) Tryd.func13 rfl (by kernel_rfl) (Args.three .t (.ci (by kernel_rfl)) (.ci (by kernel_rfl)))) r1 r1
    (cF rfl (oN .t) r1 trivial
    (cF rfl (oN .t) r1 trivial
    (cF rfl (oN .t) r1 trivial
    Chain.nil)))))))))
    hB ?_
  clear hS; intro a w F hS
  obtain ⟨F, hS⟩ := hS.nm [10, 9, 8, 7, 6, 5, 4, 3, 2, 1, 0] [61, 9, 0] rfl rfl
  refine then_n (wp_seq ?_)
  refine region_q hS
    (cF rfl (oM .t) r1 trivial
    (cF rfl (o_callG1 61 (last_c b1 3 [(⟨0, 1⟩ : PairD), (⟨1, 2⟩ : PairD), (⟨2, 0⟩ : PairD)] [0, 1, 2]) Tryd.func19 rfl (by kernel_rfl) (Args.one .t)) r1 r1
    (cF rfl (o_buildSliceE (sz := 1) (zs := [.int .i64 0]) (r := [(0, _), (1, _), (2, _)]) (l := [_, _, _]) Tryd.underlying30 (by kernel_rfl) (by kernel_rfl) (by kernel_rfl) (by kernel_rfl) rfl rfl (.one rfl (.ci (by kernel_rfl)) one_int (by kernel_rfl) (.one rfl (.ci (by kernel_rfl)) one_int (by kernel_rfl) (.one rfl (.ci (by kernel_rfl)) one_int (by kernel_rfl) .nil))) rfl) trivial trivial
    (cF rfl (oP (sameInts_c [0, 1, 2] [0, 1, 2]) Tryd.func18 (Args.two .t (.conv .t (Ent.arrSl (R := rInt) (l := [0, 1, 2]) rfl)))) r2 trivial
    (cF rfl (oM .t) r1 trivial
    (Chain.cons (Cert.cond rfl rfl (fun h => o_move .t (by rfl))) r2 trivial
    (Chain.cons (Cert.condR rfl rfl (by rfl) (fun h => o_callG1 61 (reaches_c b1 3 [(⟨0, 1⟩ : PairD), (⟨1, 2⟩ : PairD), (⟨2, 0⟩ : PairD)] [0, 1, 2] 1 1) Tryd.func21 rfl (by kernel_rfl) (Args.three (.w h) (.ci (by kernel_rfl)) (.ci (by kernel_rfl))))) r2 r1
    (cF rfl (o_and2 .t .t) r2 trivial
    (cF rfl (oM .t) r1 trivial
    (Chain.cons (Cert.cond rfl rfl (fun h => o_move .t (by rfl))) r2 trivial
    (Chain.cons (Cert.condR rfl rfl (by rfl) (fun h => o_callG1 61 (crow_c b1 3 [(⟨0, 1⟩ : PairD), (⟨1, 2⟩ : PairD), (⟨2, 0⟩ : PairD)] [0, 1, 2] 2) Tryd.func20 rfl (by kernel_rfl) (Args.two (.w h) (.ci (by kernel_rfl))))) r2 r1
    (Chain.cons (Cert.cond rfl rfl (fun h => o_buildSliceE (sz := 1) (zs := [.int .i64 0]) (r := [(0, _), (1, _), (2, _)]) (l := [_, _, _]) Tryd.underlying30 (by kernel_rfl) (by kernel_rfl) (by kernel_rfl) (by kernel_rfl) rfl rfl (.one rfl (.ci (by kernel_rfl)) one_int (by kernel_rfl) (.one rfl (.ci (by kernel_rfl)) one_int (by kernel_rfl) (.one rfl (.ci (by kernel_rfl)) one_int (by kernel_rfl) .nil))) rfl)) r1 trivial
    (Chain.cons (Cert.cond rfl rfl (fun h => o_callP (sameInts_c (rowB 3 [(⟨0, 1⟩ : PairD), (⟨1, 2⟩ : PairD), (⟨2, 0⟩ : PairD)] 2) [0, 1, 2]) Tryd.func18 rfl (by kernel_rfl) (Args.two (.w h) (.conv (.w h) (Ent.arrSl (R := rInt) (l := [0, 1, 2]) rfl))))) r3 trivial
    (cF rfl (o_and2 .t .t) r2 trivial
    (cF rfl (oN .t) r1 trivial
    Chain.nil)))))))))))))))
    hB ?_
  clear hS; intro a w F hS
  obtain ⟨F, hS⟩ := hS.nm [11, 10, 9, 8, 7, 6, 5, 4, 3, 2, 1, 0] [61, 9, 0] rfl rfl
  try dsimp only [List.map, stCells, xL, xM, Nat.reduceAdd, xD, xE, xT, xU, xC, xN, zCF] at hS
  refine then_n (wp_seq ?_)
  refine region_q hS
    (cF rfl (oM .t) r1 trivial
    (cF rfl (o_callG1 61 (add_lit b1 3 [(⟨0, 1⟩ : PairD), (⟨1, 2⟩ : PairD), (⟨2, 0⟩ : PairD)] [0, 1, 2] 1 2 [(⟨0, 1⟩ : PairD), (⟨1, 2⟩ : PairD), (⟨2, 0⟩ : PairD), (⟨1, 2⟩ : PairD)] [] 0 (by decide +kernel) (by decide +kernel) (by decide)) Tryd.func12 rfl (by kernel_rfl) (Args.three .t (.ci (by kernel_rfl)) (.ci (by kernel_rfl)))) r1 r1
    (cF rfl (oN .t) r1 trivial
    Chain.nil)))
    hB ?_
  clear hS; intro a w F hS
  obtain ⟨F, hS⟩ := hS.nm [12, 11, 10, 9, 8, 7, 6, 5, 4, 3, 2, 1, 0] [61, 9, 0] rfl rfl
  refine then_n (wp_seq ?_)
  refine region_q hS
    (cF rfl (oM .t) r1 trivial
    (cF rfl (o_callG1 61 (last_c b1 3 [(⟨0, 1⟩ : PairD), (⟨1, 2⟩ : PairD), (⟨2, 0⟩ : PairD), (⟨1, 2⟩ : PairD)] []) Tryd.func19 rfl (by kernel_rfl) (Args.one .t)) r1 r1
    (cF rfl (o_len_sl Tryd.underlying30 .t) r1 trivial
    (cF rfl (oN .t) r1 trivial
    Chain.nil))))
    hB ?_
  clear hS; intro a w F hS
  obtain ⟨F, hS⟩ := hS.nm [13, 12, 11, 10, 9, 8, 7, 6, 5, 4, 3, 2, 1, 0] [61, 9, 0] rfl rfl
  refine then_n (wp_seq ?_)
  refine region_q hS
    (cF rfl (oM .t) r1 trivial
    (cF rfl (o_callG1 61 (drop_lit b1 3 [(⟨0, 1⟩ : PairD), (⟨1, 2⟩ : PairD), (⟨2, 0⟩ : PairD), (⟨1, 2⟩ : PairD)] [] 1 2 [(⟨0, 1⟩ : PairD), (⟨2, 0⟩ : PairD), (⟨1, 2⟩ : PairD)] [] 0 (by decide +kernel) (by decide +kernel)) Tryd.func13 rfl (by kernel_rfl) (Args.three .t (.ci (by kernel_rfl)) (.ci (by kernel_rfl)))) r1 r1
    (cF rfl (oM .t) r1 trivial
    (cF rfl (o_callG1 61 (drop_lit b1 3 [(⟨0, 1⟩ : PairD), (⟨2, 0⟩ : PairD), (⟨1, 2⟩ : PairD)] [] 1 2 [(⟨0, 1⟩ : PairD), (⟨2, 0⟩ : PairD)] [0, 1, 2] 0 (by decide +kernel) (by decide +kernel)) Tryd.func13 rfl (by kernel_rfl) (Args.three .t (.ci (by kernel_rfl)) (.ci (by kernel_rfl)))) r1 r1
    (cF rfl (oN .t) r1 trivial
    (cF rfl (oN .t) r1 trivial
    Chain.nil))))))
    hB ?_
  clear hS; intro a w F hS
  obtain ⟨F, hS⟩ := hS.nm [15, 14, 13, 12, 11, 10, 9, 8, 7, 6, 5, 4, 3, 2, 1, 0] [61, 9, 0] rfl rfl
  refine then_n (wp_seq ?_)
  refine region_q hS
    (cF rfl (oN (.c rfl)) trivial trivial
    Chain.nil)
    hB ?_
  clear hS; intro a w F hS
  obtain ⟨F, hS⟩ := hS.nm [16, 15, 14, 13, 12, 11, 10, 9, 8, 7, 6, 5, 4, 3, 2, 1, 0] [61, 9, 0] rfl rfl
  refine then_n (wp_seq ?_)
  refine region_seqN hS (by kernel_rfl)
    (cG rfl (oM .t) r1 trivial
    (cG rfl (o_eql .t (.ci (by kernel_rfl))) r1 trivial
    (cG rfl (oM .t) r1 trivial
    (ChainN.cons (Cert.cond rfl rfl (fun h => o_move .t (by rfl))) r2 trivial
    (ChainN.cons (Cert.cond rfl rfl (fun h => o_eql (.w h) (.ci (by kernel_rfl)))) r2 trivial
    (cG rfl (o_and2 .t .t) r2 trivial
    (cG rfl (oM .t) r1 trivial
    (ChainN.cons (Cert.cond rfl rfl (fun h => o_move .t (by rfl))) r2 trivial
    (ChainN.cons (Cert.cond rfl rfl (fun h => o_eql (.w h) (.ci (by kernel_rfl)))) r2 trivial
    (cG rfl (o_and2 .t .t) r2 trivial
    (cG rfl (oM .t) r1 trivial
    (ChainN.cons (Cert.cond rfl rfl (fun h => o_move .t (by rfl))) r2 trivial
    (ChainN.cons (Cert.cond rfl rfl (fun h => o_buildSliceE (sz := 1) (zs := [.int .i64 0]) (r := [(0, _), (1, _)]) (l := [_, _]) Tryd.underlying30 (by kernel_rfl) (by kernel_rfl) (by kernel_rfl) (by kernel_rfl) rfl rfl (.one rfl (.ci (by kernel_rfl)) one_int (by kernel_rfl) (.one rfl (.ci (by kernel_rfl)) one_int (by kernel_rfl) .nil)) rfl)) r1 trivial
    (ChainN.cons (Cert.cond rfl rfl (fun h => o_callP (sameInts_c (rowB 3 [(⟨0, 1⟩ : PairD), (⟨1, 2⟩ : PairD)] 0) [1, 2]) Tryd.func18 rfl (by kernel_rfl) (Args.two (.w h) (.conv (.w h) (Ent.arrSl (R := rInt) (l := [1, 2]) rfl))))) r3 trivial
    (cG rfl (o_and2 .t .t) r2 trivial
    (cG rfl (oM .t) r1 trivial
    (ChainN.cons (Cert.cond rfl rfl (fun h => o_move .t (by rfl))) r2 trivial
    (ChainN.cons (Cert.cond rfl rfl (fun h => o_eql (.w h) (.ci (by kernel_rfl)))) r2 trivial
    (cG rfl (o_and2 .t .t) r2 trivial
    (cG rfl (oM .t) r1 trivial
    (ChainN.cons (Cert.cond rfl rfl (fun h => o_move .t (by rfl))) r2 trivial
    (ChainN.cons (Cert.cond rfl rfl (fun h => o_buildSliceE (sz := 1) (zs := [.int .i64 0]) (r := [(0, _), (1, _), (2, _)]) (l := [_, _, _]) Tryd.underlying30 (by kernel_rfl) (by kernel_rfl) (by kernel_rfl) (by kernel_rfl) rfl rfl (.one rfl (.ci (by kernel_rfl)) one_int (by kernel_rfl) (.one rfl (.ci (by kernel_rfl)) one_int (by kernel_rfl) (.one rfl (.ci (by kernel_rfl)) one_int (by kernel_rfl) .nil))) rfl)) r1 trivial
    (ChainN.cons (Cert.cond rfl rfl (fun h => o_callP (sameInts_c [0, 1, 2] [0, 1, 2]) Tryd.func18 rfl (by kernel_rfl) (Args.two (.w h) (.conv (.w h) (Ent.arrSl (R := rInt) (l := [0, 1, 2]) rfl))))) r3 trivial
    (cG rfl (o_and2 .t .t) r2 trivial
    (ChainN.norm [(0, _), (1, _), (8, _), (9, _), (10, _), (11, _), (12, _), (13, _), (14, _), (15, _), (16, _), (85, _)] [(0, _), (9, _), (61, _)] ⟨rfl, rfl, rfl, rfl, rfl, rfl, rfl, rfl, rfl, rfl, rfl, rfl, trivial⟩ r3
    (cG rfl (oM .t) r1 trivial
    (ChainN.cons (Cert.cond rfl rfl (fun h => o_move .t (by rfl))) r2 trivial
    (ChainN.cons (Cert.cond rfl rfl (fun h => o_eql (.w h) (.ci (by kernel_rfl)))) r2 trivial
    (cG rfl (o_and2 .t .t) r2 trivial
    (cG rfl (oM .t) r1 trivial
    (ChainN.cons (Cert.cond rfl rfl (fun h => o_move .t (by rfl))) r2 trivial
    (ChainN.cons (Cert.cond rfl rfl (fun h => o_eql (.w h) (.ci (by kernel_rfl)))) r2 trivial
    (cG rfl (o_and2 .t .t) r2 trivial
    (cG rfl (oM .t) r1 trivial
    (ChainN.cons (Cert.cond rfl rfl (fun h => o_move .t (by rfl))) r2 trivial
    (ChainN.cons (Cert.cond rfl rfl (fun h => o_eql (.w h) (.ci (by kernel_rfl)))) r2 trivial
    (cG rfl (o_and2 .t .t) r2 trivial
    (cG rfl (oM .t) r1 trivial
    (ChainN.cons (Cert.cond rfl rfl (fun h => o_move .t (by rfl))) r2 trivial
    (cG rfl (o_and2 .t .t) r2 trivial
    (cG rfl (oM .t) r1 trivial
    (ChainN.cons (Cert.cond rfl rfl (fun h => o_move .t (by rfl))) r2 trivial
    (ChainN.cons (Cert.cond rfl rfl (fun h => o_eql (.w h) (.ci (by kernel_rfl)))) r2 trivial
    (cG rfl (o_and2 .t .t) r2 trivial
    (cG rfl (oM .t) r1 trivial
    (ChainN.cons (Cert.cond rfl rfl (fun h => o_move .t (by rfl))) r2 trivial
    (ChainN.cons (Cert.cond rfl rfl (fun h => o_eql (.w h) (.ci (by kernel_rfl)))) r2 trivial
    (cG rfl (o_and2 .t .t) r2 trivial
    (cG rfl (oM .t) r1 trivial
    (ChainN.norm [(0, _), (1, _), (14, _), (15, _), (16, _), (109, _)] [(0, _), (9, _), (61, _)] r6 r3
    (ChainN.cons (Cert.cond rfl rfl (fun h => o_move .t (by rfl))) r2 trivial
    (ChainN.cons (Cert.cond rfl rfl (fun h => o_eql (.w h) (.ci (by kernel_rfl)))) r2 trivial
    (cG rfl (o_and2 .t .t) r2 trivial
    (cG rfl (oM .t) r1 trivial
    (ChainN.cons (Cert.cond rfl rfl (fun h => o_move .t (by rfl))) r2 trivial
    (ChainN.cons (Cert.cond rfl rfl (fun h => o_eql (.w h) (.ci (by kernel_rfl)))) r2 trivial
    (cG rfl (o_and2 .t .t) r2 trivial
    (cG rfl (oM .t) r1 trivial
    (ChainN.cons (Cert.cond rfl rfl (fun h => o_move .t (by rfl))) r2 trivial
    (ChainN.cons (Cert.condR rfl rfl (by rfl) (fun h => o_callG1 61 (reaches_c b1 3 [(⟨0, 1⟩ : PairD), (⟨2, 0⟩ : PairD)] [0, 1, 2] 1 1) Tryd.func21 rfl (by kernel_rfl) (Args.three (.w h) (.ci (by kernel_rfl)) (.ci (by kernel_rfl))))) r2 r1
    (ChainN.cons (Cert.cond rfl rfl (fun h => o_not (.w h))) r2 trivial
    (cG rfl (o_and2 .t .t) r2 trivial
    (cG rfl (oM .t) r1 trivial
    (ChainN.cons (Cert.cond rfl rfl (fun h => o_move .t (by rfl))) r2 trivial
    (ChainN.cons (Cert.condR rfl rfl (by rfl) (fun h => o_callG1 61 (crow_c b1 3 [(⟨0, 1⟩ : PairD), (⟨2, 0⟩ : PairD)] [0, 1, 2] 2) Tryd.func20 rfl (by kernel_rfl) (Args.two (.w h) (.ci (by kernel_rfl))))) r2 r1
    (ChainN.cons (Cert.cond rfl rfl (fun h => o_buildSliceE (sz := 1) (zs := [.int .i64 0]) (r := [(0, _), (1, _)]) (l := [_, _]) Tryd.underlying30 (by kernel_rfl) (by kernel_rfl) (by kernel_rfl) (by kernel_rfl) rfl rfl (.one rfl (.ci (by kernel_rfl)) one_int (by kernel_rfl) (.one rfl (.ci (by kernel_rfl)) one_int (by kernel_rfl) .nil)) rfl)) r1 trivial
    (ChainN.cons (Cert.cond rfl rfl (fun h => o_callP (sameInts_c (rowB 3 [(⟨0, 1⟩ : PairD), (⟨2, 0⟩ : PairD)] 2) [0, 1]) Tryd.func18 rfl (by kernel_rfl) (Args.two (.w h) (.conv (.w h) (Ent.arrSl (R := rInt) (l := [0, 1]) rfl))))) r3 trivial
    (cG rfl (o_and2 .t .t) r2 trivial
    (cG rfl (oM .t) r1 trivial
    (ChainN.cons (Cert.cond rfl rfl (fun h => o_move .t (by rfl))) r2 trivial
    (ChainN.cons (Cert.condR rfl rfl (by rfl) (fun h => o_callG1 61 (arcs_c b1 3 [(⟨0, 1⟩ : PairD), (⟨2, 0⟩ : PairD)] [0, 1, 2] 0 1) Tryd.func16 rfl (by kernel_rfl) (Args.three (.w h) (.ci (by kernel_rfl)) (.ci (by kernel_rfl))))) r2 r1
    (ChainN.cons (Cert.cond rfl rfl (fun h => o_eql (.w h) (.ci (by kernel_rfl)))) r2 trivial
    (cG rfl (o_and2 .t .t) r2 trivial
    (cG rfl (oM .t) r1 trivial
    (ChainN.norm [(0, _), (1, _), (16, _), (133, _)] [(0, _), (9, _), (61, _)] r4 r3
    (ChainN.cons (Cert.cond rfl rfl (fun h => o_move .t (by rfl))) r2 trivial
    (ChainN.cons (Cert.condR rfl rfl (by rfl) (fun h => o_callG1 61 (arcs_c b1 3 [(⟨0, 1⟩ : PairD), (⟨2, 0⟩ : PairD)] [0, 1, 2] 1 2) Tryd.func16 rfl (by kernel_rfl) (Args.three (.w h) (.ci (by kernel_rfl)) (.ci (by kernel_rfl))))) r2 r1
    (ChainN.cons (Cert.cond rfl rfl (fun h => o_eql (.w h) (.ci (by kernel_rfl)))) r2 trivial
    (cG rfl (o_and2 .t .t) r2 trivial
    (cG rfl (oM .t) r1 trivial
    (ChainN.cons (Cert.cond rfl rfl (fun h => o_move .t (by rfl))) r2 trivial
    (ChainN.cons (Cert.condR rfl rfl (by rfl) (fun h => o_callG1 61 (nodes_c b1 3 [(⟨0, 1⟩ : PairD), (⟨2, 0⟩ : PairD)] [0, 1, 2]) Tryd.func15 rfl (by kernel_rfl) (Args.one (.w h)))) r2 r1
    (ChainN.cons (Cert.cond rfl rfl (fun h => o_eql (.w h) (.ci (by kernel_rfl)))) r2 trivial
    (cG rfl (o_and2 .t .t) r2 trivial
    (cG rfl (oM .t) r1 trivial
    (ChainN.cons (Cert.cond rfl rfl (fun h => o_move .t (by rfl))) r2 trivial
    (ChainN.cons (Cert.cond rfl rfl (fun h => o_callP (add_nil 0 0) Tryd.func12 rfl (by kernel_rfl) (Args.three (.w h) (.ci (by kernel_rfl)) (.ci (by kernel_rfl))))) r2 trivial
    (ChainN.cons (Cert.cond rfl rfl (fun h => o_eql (.w h) (.ci (by kernel_rfl)))) r2 trivial
    (cG rfl (o_and2 .t .t) r2 trivial
    (cG rfl (oM .t) r1 trivial
    (ChainN.cons (Cert.cond rfl rfl (fun h => o_move .t (by rfl))) r2 trivial
    (ChainN.cons (Cert.cond rfl rfl (fun h => o_callP (nodes_nil) Tryd.func15 rfl (by kernel_rfl) (Args.one (.w h)))) r2 trivial
    (ChainN.cons (Cert.cond rfl rfl (fun h => o_eql (.w h) (.ci (by kernel_rfl)))) r2 trivial
    (cG rfl (o_and2 .t .t) r2 trivial
    (cG rfl (oM .t) r1 trivial
    (ChainN.cons (Cert.cond rfl rfl (fun h => o_move .t (by rfl))) r2 trivial
    (ChainN.cons (Cert.cond rfl rfl (fun h => o_callP (crow_nil 0) Tryd.func20 rfl (by kernel_rfl) (Args.two (.w h) (.ci (by kernel_rfl))))) r2 trivial
    (ChainN.cons (Cert.cond rfl rfl (fun h => o_len_sl Tryd.underlying30 (.w h))) r2 trivial
    (ChainN.cons (Cert.cond rfl rfl (fun h => o_eql (.w h) (.ci (by kernel_rfl)))) r2 trivial
    (ChainN.norm [(0, _), (16, _), (153, _), (157, _)] [(0, _), (9, _), (61, _)] r4 r3
    (cG rfl (o_and2 .t .t) r2 trivial
    (cG rfl (oM .t) r1 trivial
    (ChainN.cons (Cert.cond rfl rfl (fun h => o_move .t (by rfl))) r2 trivial
    (ChainN.cons (Cert.cond rfl rfl (fun h => o_callP (reaches_nil 0 0) Tryd.func21 rfl (by kernel_rfl) (Args.three (.w h) (.ci (by kernel_rfl)) (.ci (by kernel_rfl))))) r2 trivial
    (ChainN.cons (Cert.cond rfl rfl (fun h => o_not (.w h))) r2 trivial
    (cG rfl (o_and2 .t .t) r2 trivial
    (cG rfl (oN .t) r1 trivial
    ChainN.nil)))))))))))))))))))))))))))))))))))))))))))))))))))))))))))))))))))))))))))))))))))))))))))))))))))))))))))
    (by kernel_rfl) (by rw [hB]; kernel_rfl) ?_
  clear hS; intro a w F hS
  obtain ⟨F, hS⟩ := hS.nm [0] [61, 9, 0] rfl rfl
  try dsimp only [List.map, stCells, xL, xM, Nat.reduceAdd, xD, xE, xT, xU, xC, xN, zCF] at hS
  refine then_n (wp_ret ?_)
  refine ret_P hfr hS rfl (.tmp rfl .nil) (.one (.bool (by decide +kernel)))

end Go.Proofs.YtpahapjcdldodaaDoor
