/- TopPacked. No condition beyond those that each theorem says. -/
import Derived.Test.YtdfidiehkkbimaaDoorRw10
import Derived.Test.YtdfidiehkkbimaaDoorPs4
import Derived.Test.YtdfidiehkkbimaaDoorPk7
namespace Go.Proofs.YtdfidiehkkbimaaDoor
open Go Go.Gm
set_option linter.unusedVariables false
set_option linter.unusedSimpArgs false
set_option maxHeartbeats 4000000
set_option maxRecDepth 8000


theorem put_in {x : List Int} {p : Int} (h : Up 1024 x) (hp : 0 ≤ p ∧ p < 1024) : decide (x = putL x 1024 p true) = decide (p ∈ x) := by
  rw [decide_eq_decide]
  have hm : p ∈ putL x 1024 p true := mem_putL.2 (.inr ⟨rfl, rfl, hp.1, hp.2⟩)
  constructor
  · intro e; rw [e]; exact hm
  · intro hx
    refine up_ext h.1 (putL_up (n := 1024) h p true).1 fun i => ?_
    rw [mem_putL]
    constructor
    · intro hi
      by_cases e : i = p
      · exact .inr ⟨e, rfl, hp.1, hp.2⟩
      · exact .inl ⟨e, hi⟩
    · rintro (h1 | ⟨rfl, _⟩)
      · exact h1.2
      · exact hx
theorem edgeN_pos {e : EdgeD} (h : rightB e = true) : 0 < edgeN e ∧ edgeN e < 9223372036854775807 := by
  have := rightB_iff.1 h
  unfold edgeN
  omega
theorem mod_place {e : EdgeD} (h : rightB e = true) : IntKind.wrap .i64 (Int.tmod (edgeN e) 1024) = edgeN e % 1024 := by
  have := edgeN_pos h
  rw [Int.tmod_eq_emod_of_nonneg (by omega)]
  exact wrap_i64 (by omega)
theorem foldG_len : ∀ (l acc : List EdgeD), (l.foldl (putG ltE) acc).length ≤ acc.length + l.length
  | [], acc => by simp
  | e :: l, acc => by
    have h1 := foldG_len l (putG ltE acc e)
    have h2 : (putRG ltE e acc false).length ≤ acc.length + 1 := by simpa using putRG_len ltE e acc false
    have h3 : (putG ltE acc e).length = (putRG ltE e acc false).length := rfl
    rw [List.foldl_cons, List.length_cons]
    omega
theorem keysG_len (l : List EdgeD) : (keysG ltE l).length ≤ l.length := by have := foldG_len l []; rw [List.length_nil, Nat.zero_add] at this; exact this
theorem keys3 : (keysG ltE [⟨2, 0, 0, 0⟩, ⟨1, 0, 0, 0⟩, ⟨2, 0, 0, 0⟩]).length = 2 := by decide +kernel
theorem keys_step {l : List EdgeD} {i j : Nat} (hij : i < j) (hj : j < (keysG ltE l).length) (h1 : rightB (Go.Gm.nth (keysG ltE l) i) = true) (h2 : rightB (Go.Gm.nth (keysG ltE l) j) = true) : edgeN (Go.Gm.nth (keysG ltE l) i) < edgeN (Go.Gm.nth (keysG ltE l) j) := by
  refine (less_num h1 h2).1 ?_
  have h := List.pairwise_iff_getElem.1 (keysG_inc ltE_sto l).1 i j (by omega) hj hij
  rw [nth_eq (by omega), nth_eq hj]
  exact of_decide_eq_true h

theorem topPacked_c (l : List EdgeD) : FnPg Tryd.prog tabP tabV 5 [.sl rEdge l] (.bool true) := by
  refine FnPg.mk Tryd.func5 rfl Tryd.ntmps5 rfl ?_
  intro B a w F hB hfr hS
  have hll := Sat.lenSl hS (i := 0) rfl
  have hkl := keysG_len l
  refine wp_seq ?_
  refine region_q hS
    (cF rfl (oN .cb) trivial trivial
    Chain.nil)
    hB ?_
  clear hS; intro a w F hS
  obtain ⟨F, hS⟩ := hS.nm [2, 0] [9, 0] rfl rfl
  try dsimp only [rEdge, rInt] at hS
  refine then_n (wp_seq ?_)
  replace hS := hS.dupG 9 61 rfl rfl
  refine region_q hS
    (cF rfl (o_callNg 61 (newS_c 1024) Tryd.func23 rfl (by kernel_rfl) (Args.one (.ci (by kernel_rfl))) PV.ptr_one) trivial r1
    (cF rfl (oN .t) r1 trivial
    Chain.nil))
    hB ?_
  clear hS; intro a w F hS
  replace hS := hS.sub
  obtain ⟨F, hS⟩ := hS.nm [3, 2, 0] [61, 9, 0] rfl rfl
  try dsimp only [RS.sub, SF.sub, CF.sub, csub, Anc.sub, List.map, rEdge, rInt] at hS
  generalize Act.tau a 12 = v12 at hS
  obtain ⟨_, _, _, ho⟩ := hS.obGet 61 rfl
  obtain ⟨b1, rfl⟩ := setH_ptr ho
  clear ho
  replace hS := hS.turn 61 rfl (r' := RS.hp (setH (.pointer (some ⟨b1, 0, none⟩)) (rowN 1024) [])) (fun _ _ _ _ h => h)
  obtain ⟨F, hS⟩ := hS.nm [3, 2, 0] [61, 9, 0] rfl rfl
  rw [show rowN 1024 = 1024 from rfl] at hS
  refine then_n (wp_seq (wp_seq ?_))
  refine region_q hS
    (cF rfl (oM .t) r1 trivial
    (cF rfl (o_nil_eql _ Tryd.underlying51 rfl .t) r1 trivial
    (cF rfl (oM .t) r1 trivial
    (Chain.cons (Cert.cond rfl rfl (fun h => o_build (r := [(0, _)]) (zs := [.int .i64 0, .int .i64 0, .int .i64 0, .int .i64 0]) (pl := [(0, 1), (1, 1), (2, 1), (3, 1)]) (by kernel_rfl) (by kernel_rfl) (.one rfl (.ci (by kernel_rfl)) one_int (by kernel_rfl) .nil) (by rfl))) r1 trivial
    (Chain.cons (Cert.cond rfl rfl (fun h => o_build (r := [(0, _)]) (zs := [.int .i64 0, .int .i64 0, .int .i64 0, .int .i64 0]) (pl := [(0, 1), (1, 1), (2, 1), (3, 1)]) (by kernel_rfl) (by kernel_rfl) (.one rfl (.ci (by kernel_rfl)) one_int (by kernel_rfl) .nil) (by rfl))) r1 trivial
    (Chain.cons (Cert.cond rfl rfl (fun h => o_build (r := [(0, _)]) (zs := [.int .i64 0, .int .i64 0, .int .i64 0, .int .i64 0]) (pl := [(0, 1), (1, 1), (2, 1), (3, 1)]) (by kernel_rfl) (by kernel_rfl) (.one rfl (.ci (by kernel_rfl)) one_int (by kernel_rfl) .nil) (by rfl))) r1 trivial
    (Chain.cons (Cert.cond rfl rfl (fun h => o_buildSliceE (sz := 4) (zs := [.int .i64 0, .int .i64 0, .int .i64 0, .int .i64 0]) (r := [(0, .tmp 16), (1, .tmp 17), (2, .tmp 18)]) (l := [_, _, _, _, _, _, _, _, _, _, _, _]) Tryd.underlying50 (by kernel_rfl) (by kernel_rfl) (by kernel_rfl) (by kernel_rfl) rfl rfl (.agg rfl (.w h) (by kernel_rfl) (by kernel_rfl) (.agg rfl (.w h) (by kernel_rfl) (by kernel_rfl) (.agg rfl (.w h) (by kernel_rfl) (by kernel_rfl) .nil))) rfl)) r4 trivial
    (Chain.cons (Cert.cond rfl rfl (fun h => o_callP (sortEd_c _ (by simp)) Tryd.func24 rfl (by kernel_rfl) (Args.one (.conv (.w h) (Ent.arrSl (R := rEdge) (l := [(⟨2, 0, 0, 0⟩ : EdgeD), (⟨1, 0, 0, 0⟩ : EdgeD), (⟨2, 0, 0, 0⟩ : EdgeD)]) rfl))))) r2 trivial
    (Chain.cons (Cert.cond rfl rfl (fun h => o_len_sl Tryd.underlying50 (.w h))) r2 trivial
    (Chain.cons (Cert.cond rfl rfl (fun h => o_neq (.w h) (.ci (by kernel_rfl)))) r2 trivial
    (cF rfl (o_or2 .t .t) r2 trivial
    Chain.nil)))))))))))
    hB ?_
  clear hS; intro a w F hS
  obtain ⟨F, hS⟩ := hS.nm [23, 3, 2, 0] [61, 9, 0] rfl rfl
  try dsimp only [List.map, stCells, xL, xM, Nat.reduceAdd, xD, xE, xT, xU, xC, xN, zCF, rEdge, rInt] at hS
  refine then_n ?_
  refine cond_b hS rfl (fun hc0 => ?_) (fun hc0 => ?_)
  ·skip
   rw [keys3] at hc0
   simp at hc0
  refine wp_skip (then_n (wp_seq (wp_seq ?_)))
  refine region_q hS
    (cF rfl (oM .t) r1 trivial
    (cF rfl (o_len_sl Tryd.underlying50 .t) r1 trivial
    (cF rfl (o_gtr .t (.ci (by kernel_rfl))) r1 trivial
    Chain.nil)))
    hB ?_
  clear hS; intro a w F hS
  obtain ⟨F, hS⟩ := hS.nm [26, 3, 2, 0] [61, 9, 0] rfl rfl
  try dsimp only [rEdge, rInt] at hS
  refine then_n ?_
  refine cond_b hS rfl (fun hc1 => ?_) (fun hc1 => ?_)
  ·skip
   refine wp_seq ?_
   refine region_q hS
     (cF rfl (oN .cb) trivial trivial
     Chain.nil)
     hB ?_
   clear hS; intro a w F hS
   obtain ⟨F, hS⟩ := hS.nm [3, 2, 0] [61, 9, 0] rfl rfl
   try dsimp only [rEdge, rInt] at hS
   refine then_n (wp_ret (then_r ?_))
   refine ret_P hfr hS rfl (.tmp rfl .nil) (.one (.bool (by first | rfl | simp)))
  have hl60 : l.length ≤ 60 := by simp at hc1; omega
  refine wp_skip (then_n (wp_seq ?_))
  refine region_q hS
    (cF rfl (oM .t) r1 trivial
    (cF rfl (oP (sortEd_c l (by omega)) Tryd.func24 (Args.one .t)) r1 trivial
    (cF rfl (oN .t) r1 trivial
    Chain.nil)))
    hB ?_
  clear hS; intro a w F hS
  obtain ⟨F, hS⟩ := hS.nm [4, 3, 2] [61, 9, 0] rfl rfl
  try dsimp only [rEdge, rInt] at hS
  refine then_n (wp_seq ?_)
  refine region_q hS
    (cF rfl (oN (.ci (by kernel_rfl))) trivial trivial
    Chain.nil)
    hB ?_
  clear hS; intro a w F hS
  obtain ⟨F, hS⟩ := hS.nm [5, 4, 3, 2] [61, 9, 0] rfl rfl
  try dsimp only [rEdge, rInt] at hS
  refine then_n (wp_seq ?_)
  refine region_q hS
    (cF rfl (oN (.c rfl)) trivial trivial
    Chain.nil)
    hB ?_
  clear hS; intro a w F hS
  obtain ⟨F, hS⟩ := hS.nm [6, 5, 4, 3, 2] [61, 9, 0] rfl rfl
  try dsimp only [rEdge, rInt] at hS
  refine then_n (wp_seq (wp_seq ?_))
  refine region_q hS
    (cF rfl (oM .t) r1 trivial
    (cF rfl (o_len_sl Tryd.underlying50 .t) r1 trivial
    (cF rfl (oM (.ci (by kernel_rfl))) trivial trivial
    Chain.nil)))
    hB ?_
  clear hS; intro a w F hS
  obtain ⟨F, hS⟩ := hS.nm [31, 30, 29, 6, 5, 3, 2] [61, 9, 0] rfl rfl
  try dsimp only [rEdge, rInt] at hS
  refine then_n (wp_block ?_)
  replace hS := hS.ent (i := 6) (s' := .pv (.sl rInt [])) rfl (.nilSl)
  refine loop_keep (σ := (Nat) × (Int) × (List Int)) [2, 3, 29, 30] [0, 9] (fun s => [(31, .pv (.int .i64 (s.1 : Int))), (5, .pv (.int .u64 s.2.1)), (6, .pv (.sl rInt s.2.2))]) (fun s => [(61, RS.hp (setH (.pointer (some ⟨b1, 0, none⟩)) 1024 s.2.2))]) (fun s => s.1 ≤ (keysG ltE l).length ∧ (Up 1024 s.2.2 ∧ s.2.2.length ≤ s.1 ∧ (s.2.1 = 0 ∨ ∃ j, j < s.1 ∧ rightB (Go.Gm.nth (keysG ltE l) j) = true ∧ edgeN (Go.Gm.nth (keysG ltE l) j) = s.2.1))) (fun s => (keysG ltE l).length - s.1) ((0), (0), ([])) hS ⟨rfl, rfl, rfl, rfl, rfl, rfl, rfl, trivial⟩ ⟨rfl, rfl, rfl, trivial⟩ ⟨Nat.zero_le _, ⟨⟨List.Pairwise.nil, by simp⟩, Nat.le_refl 0, .inl rfl⟩⟩ ?_
  clear hS; intro s a w F hC hS
  obtain ⟨i, last, x⟩ := s
  try dsimp only at hC
  obtain ⟨F, hS⟩ := hS.nm [31, 30, 29, 6, 5, 3, 2] [61, 9, 0] rfl rfl
  try dsimp only at hS
  obtain ⟨hi, hq⟩ := hC
  obtain ⟨hup, hxl, hlast⟩ := hq
  refine wp_seq ?_
  refine region_q hS
    (cF rfl (o_lss .t .t) r2 trivial
    Chain.nil)
    hB ?_
  clear hS; intro a w F hS
  obtain ⟨F, hS⟩ := hS.nm [32, 31, 30, 29, 6, 5, 3, 2] [61, 9, 0] rfl rfl
  try dsimp only [rEdge, rInt] at hS
  refine then_n (wp_seq ?_)
  refine cond_b hS rfl (fun hc2 => ?_) (fun hc2 => ?_)
  ·skip
   have hil : i < (keysG ltE l).length := by simp at hc2; omega
   refine wp_skip (then_n (wp_seq (wp_block (wp_seq ?_))))
   refine region_q hS
     (cF rfl (o_indexAddr_sl (sz := 4) (.mk Tryd.underlying50 (by kernel_rfl)) (by intro x; rfl) .t .t (by omega) (by omega)) r2 trivial
     (cF rfl (oR true 4 .t) r1 trivial
     (cF rfl (oH [.int .i64 0, .int .i64 0, .int .i64 0, .int .i64 0] 101) trivial trivial
     (cF rfl (oA 4 101 .same .t) r2 r1
     Chain.nil))))
     hB ?_
   clear hS; intro a w F hS
   replace hS := hS.sub
   obtain ⟨F, hS⟩ := hS.nm [34, 33, 32, 31, 30, 29, 8, 6, 5, 3, 2] [101, 61, 9, 0] rfl rfl
   try dsimp only [RS.sub, SF.sub, CF.sub, csub, Anc.sub, List.map, stCells, xL, xM, Nat.reduceAdd, xD, xE, xT, xU, xC, xN, zCF, ldSF, rEdge, rInt] at hS
   generalize Act.tau a 8 = v8 at hS
   try simp only [Int.toNat_natCast] at hS
   refine then_n (wp_seq ?_)
   refine region_q hS
     (cF rfl (oL true 4 101 .is) r1 r1
     (cF rfl (oP (edge_c (Go.Gm.nth (keysG ltE l) i)) Tryd.func25 (Args.one (.pagg .t))) r1 trivial
     (cF rfl (oM .t) r1 trivial
     (cF rfl (o_extract .t rfl) r1 trivial
     (cF rfl (o_extract .t rfl) r1 trivial
     (cF rfl (oN .t) r1 trivial
     (cF rfl (oN .t) r1 trivial
     Chain.nil)))))))
     hB ?_
   clear hS; intro a w F hS
   obtain ⟨F, hS⟩ := hS.nm [39, 38, 37, 36, 35, 34, 33, 32, 31, 30, 29, 10, 9, 8, 6, 5, 3, 2] [101, 61, 9, 0] rfl rfl
   try dsimp only [List.map, xD, xE, xT, xU, ldSF, rEdge, rInt] at hS
   refine then_n (wp_seq (wp_seq ?_))
   refine region_q hS
     (cF rfl (oM .t) r1 trivial
     (cF rfl (o_neq .t (.ci (by kernel_rfl))) r1 trivial
     Chain.nil))
     hB ?_
   clear hS; intro a w F hS
   obtain ⟨F, hS⟩ := hS.nm [41, 40, 39, 38, 37, 36, 35, 34, 33, 32, 31, 30, 29, 10, 9, 8, 6, 5, 3, 2] [101, 61, 9, 0] rfl rfl
   try dsimp only [rEdge, rInt] at hS
   refine then_n ?_
   refine cond_b hS rfl (fun hc3 => ?_) (fun hc3 => ?_)
   ·skip
    refine wp_exit (then_x (block_x (then_n ?_)))
    refine region_q hS
      (cF rfl (o_add .t (.ci (by kernel_rfl))) r1 trivial
      (cF rfl (oM .t) r1 trivial
      Chain.nil))
      hB ?_
    clear hS; intro a w F hS
    obtain ⟨F, hS⟩ := hS.nm [59, 41, 40, 39, 38, 37, 36, 35, 34, 33, 32, 31, 30, 29, 10, 9, 8, 6, 5, 3, 2] [101, 61, 9, 0] rfl rfl
    try dsimp only [rEdge, rInt] at hS
    refine then_n ?_
    replace hS := hS.ent (i := 31) (s' := .pv (.int .i64 ((i + 1 : Nat) : Int))) rfl (.int (wrap_succ (by omega)))
    obtain ⟨F, hS⟩ := hS.nm [30, 29, 3, 2, 6, 5, 31] [9, 0, 61] rfl rfl
    exact ⟨((i + 1), (last), (x)), F, ⟨by omega, ⟨hup, Nat.le_succ_of_le hxl, hlast.imp id fun ⟨j, h1, h2⟩ => ⟨j, by omega, h2⟩⟩⟩, hS, by omega⟩
   have hrb : rightB (Go.Gm.nth (keysG ltE l) i) = true := by cases hr : rightB (Go.Gm.nth (keysG ltE l) i) with | true => rfl | false => rw [edgeR_no hr] at hc3; simp at hc3
   rw [edgeR_yes hrb] at hS
   have hpos := edgeN_pos hrb
   have hpl := putL_len x 1024 (edgeN (Go.Gm.nth (keysG ltE l) i) % 1024) true
   refine wp_skip (then_n (wp_seq (wp_seq ?_)))
   refine region_q hS
     (cF rfl (oM .t) r1 trivial
     (cF rfl (oM .t) r1 trivial
     (cF rfl (o_leq .t .t) r2 trivial
     Chain.nil)))
     hB ?_
   clear hS; intro a w F hS
   obtain ⟨F, hS⟩ := hS.nm [44, 43, 42, 41, 40, 39, 38, 37, 36, 35, 34, 33, 32, 31, 30, 29, 10, 9, 8, 6, 5, 3, 2] [101, 61, 9, 0] rfl rfl
   try dsimp only [rEdge, rInt] at hS
   refine then_n ?_
   refine cond_b hS rfl (fun hc4 => ?_) (fun hc4 => ?_)
   ·skip
    exfalso
    rw [decide_eq_true_eq] at hc4
    rcases hlast with h0 | ⟨j, h1, h2, h3⟩
    · have := (edgeN_pos hrb).1; omega
    · have := keys_step h1 hil h2 hrb; omega
   refine wp_skip (then_n (wp_seq ?_))
   refine region_q hS
     (cF rfl (oM .t) r1 trivial
     (cF rfl (oN .t) r1 trivial
     Chain.nil))
     hB ?_
   clear hS; intro a w F hS
   obtain ⟨F, hS⟩ := hS.nm [45, 44, 43, 42, 41, 40, 39, 38, 37, 36, 35, 34, 33, 32, 31, 30, 29, 10, 9, 8, 6, 5, 3, 2] [101, 61, 9, 0] rfl rfl
   try dsimp only [rEdge, rInt] at hS
   refine then_n (wp_seq ?_)
   refine region_q hS
     (cF rfl (oM .t) r1 trivial
     (cF rfl (o_rem .t (.ci (by kernel_rfl)) (by decide)) r1 trivial
     (cF rfl (o_conv Tryd.underlying3 (by kernel_rfl) .t) r1 trivial
     (cF rfl (oN .t) r1 trivial
     Chain.nil))))
     hB ?_
   clear hS; intro a w F hS
   obtain ⟨F, hS⟩ := hS.nm [48, 47, 46, 45, 44, 43, 42, 41, 40, 39, 38, 37, 36, 35, 34, 33, 32, 31, 30, 29, 11, 10, 9, 8, 6, 5, 3, 2] [101, 61, 9, 0] rfl rfl
   try dsimp only [rEdge, rInt] at hS
   rw [mod_place hrb] at hS
   obtain ⟨p, hp⟩ : ∃ p, p = edgeN (Go.Gm.nth (keysG ltE l) i) % 1024 := ⟨_, rfl⟩
   rw [← hp] at hS hpl
   have hp0 : 0 ≤ p := by omega
   have hp1 : p < 1024 := by omega
   replace hpl : (putL x 1024 p true).length ≤ i + 1 := by omega
   refine then_n (wp_seq (wp_seq ?_))
   refine region_q hS
     (cF rfl (oM .t) r1 trivial
     (cF rfl (oM .t) r1 trivial
     (cF rfl (o_callG1 61 (setS_c b1 1024 x p true) Tryd.func26 rfl (by kernel_rfl) (Args.three .t .t .cb)) r2 r1
     (cF rfl (oM .t) r1 trivial
     (cF rfl (oM .t) r1 trivial
     (cF rfl (oP (in_c x p (by omega)) Tryd.func21 (Args.two .t .t)) r2 trivial
     (cF rfl (o_eqlB Tryd.underlying4 .t .t) r2 trivial
     Chain.nil)))))))
     hB ?_
   clear hS; intro a w F hS
   obtain ⟨F, hS⟩ := hS.nm [55, 54, 53, 52, 51, 50, 49, 48, 47, 46, 45, 44, 43, 42, 41, 40, 39, 38, 37, 36, 35, 34, 33, 32, 31, 30, 29, 11, 10, 9, 8, 6, 5, 3, 2] [101, 61, 9, 0] rfl rfl
   try dsimp only [rEdge, rInt] at hS
   refine then_n ?_
   refine cond_b hS rfl (fun hc5 => ?_) (fun hc5 => ?_)
   ·skip
    exfalso
    change ((!decide (x = putL x 1024 p true)) == decide (p ∈ x)) = true at hc5
    rw [put_in hup ⟨hp0, hp1⟩] at hc5
    cases hd : decide (p ∈ x) <;> rw [hd] at hc5 <;> simp at hc5
   refine wp_skip (then_n ?_)
   refine region_q hS
     (cF rfl (oM .t) r1 trivial
     (cF rfl (oM .t) r1 trivial
     (cF rfl (oP (put_c x 1024 p true (by omega)) Tryd.func27 (Args.four .t (.ci (by kernel_rfl)) .t .cb)) r2 trivial
     (cF rfl (oN .t) r1 trivial
     Chain.nil))))
     hB ?_
   clear hS; intro a w F hS
   obtain ⟨F, hS⟩ := hS.nm [58, 57, 56, 55, 54, 53, 52, 51, 50, 49, 48, 47, 46, 45, 44, 43, 42, 41, 40, 39, 38, 37, 36, 35, 34, 33, 32, 31, 30, 29, 11, 10, 9, 8, 6, 5, 3, 2] [101, 61, 9, 0] rfl rfl
   try dsimp only [rEdge, rInt] at hS
   refine block_n (then_n ?_)
   refine region_q hS
     (cF rfl (o_add .t (.ci (by kernel_rfl))) r1 trivial
     (cF rfl (oM .t) r1 trivial
     Chain.nil))
     hB ?_
   clear hS; intro a w F hS
   obtain ⟨F, hS⟩ := hS.nm [59, 58, 57, 56, 55, 54, 53, 52, 51, 50, 49, 48, 47, 46, 45, 44, 43, 42, 41, 40, 39, 38, 37, 36, 35, 34, 33, 32, 31, 30, 29, 11, 10, 9, 8, 6, 5, 3, 2] [101, 61, 9, 0] rfl rfl
   try dsimp only [rEdge, rInt] at hS
   refine then_n ?_
   replace hS := hS.ent (i := 31) (s' := .pv (.int .i64 ((i + 1 : Nat) : Int))) rfl (.int (wrap_succ (by omega)))
   obtain ⟨F, hS⟩ := hS.nm [30, 29, 3, 2, 6, 5, 31] [9, 0, 61] rfl rfl
   exact ⟨((i + 1), (edgeN (Go.Gm.nth (keysG ltE l) i)), ((putL x 1024 p true))), F, ⟨by omega, ⟨putL_up (n := 1024) hup p true, hpl, .inr ⟨i, by omega, hrb, rfl⟩⟩⟩, hS, by omega⟩
  have hil : i = (keysG ltE l).length := by simp at hc2; omega
  refine wp_exit (then_x (then_x (block_x (then_n (wp_seq ?_)))))
  refine region_q hS
    (cF rfl (oM .t) r1 trivial
    (cF rfl (o_callG1 61 (listG_c b1 1024 x) Tryd.func28 rfl (by kernel_rfl) (Args.one .t)) r1 r1
    (cF rfl (oM .t) r1 trivial
    (cF rfl (oP (sameInts_c _ _) Tryd.func17 (Args.two .t .t)) r2 trivial
    (cF rfl (oN .t) r1 trivial
    Chain.nil)))))
    hB ?_
  clear hS; intro a w F hS
  obtain ⟨F, hS⟩ := hS.nm [2] [61, 9, 0] rfl rfl
  try dsimp only [rEdge, rInt] at hS
  refine then_n (wp_ret ?_)
  refine ret_P hfr hS rfl (.tmp rfl .nil) (.one (.bool (by first | rfl | simp)))

end Go.Proofs.YtdfidiehkkbimaaDoor
