/- Figures. No condition beyond those that each theorem says. -/
import Derived.Test.YtpjjmolibanakaaDoorOp1
namespace Go.Proofs.YtpjjmolibanakaaDoor
open Go Go.Gm
set_option linter.unusedVariables false
set_option linter.unusedSimpArgs false
set_option maxHeartbeats 4000000
set_option maxRecDepth 8000

theorem makeSet_c  : FnP Tryd.prog 50 [.bs tenL] (.tup [.agg (setL.map (fun x => PV.bool x)), .bool true]) := by
  refine FnP.mk Tryd.func50 rfl Tryd.ntmps50 rfl ?_
  intro B a w F hB hfr hS
  refine wp_seq ?_
  refine region_q hS
    (cF rfl (o_allocA (f := (fun x => PV.bool x)) (n := 256) (zv := .bool false) (z := false) 101 (by kernel_rfl) rfl) trivial trivial
    (cF rfl (oN .cb) trivial trivial
    Chain.nil))
    hB ?_
  clear hS; intro a w F hS
  replace hS := hS.sub
  obtain ⟨F, hS⟩ := hS.nm [3, 2, 0] [101, 0] rfl rfl
  try dsimp only [RS.sub, SF.sub, CF.sub, csub, Anc.sub, List.map, zCF] at hS
  generalize Act.tau a 2 = v2 at hS
  refine then_n (wp_seq (wp_seq ?_))
  refine region_q hS
    (cF rfl (oN (.ci (by kernel_rfl))) trivial trivial
    Chain.nil)
    hB ?_
  clear hS; intro a w F hS
  obtain ⟨F, hS⟩ := hS.nm [4, 3, 2, 0] [101, 0] rfl rfl
  refine then_n (wp_block ?_)
  replace hS := hS.turn 101 rfl (r' := .ob (.val v2) (arrB 95 (fun x => PV.bool x) (setTo 0))) (fun τ w f y h => h)
  obtain ⟨F, hS⟩ := hS.nm [4, 2, 0] [101, 0] rfl rfl
  refine loop_inv (σ := Nat) (fun s => (⟨[(0, .pv (.bs tenL)), (2, .pv (.is v2)), (4, .pv (.int .i64 (s : Nat)))], [(0, frame B), (101, .ob (.val v2) (arrB 95 (fun x => PV.bool x) (setTo s)))]⟩ : En)) (fun s => s ≤ 10) (fun s => 10 - s) 0 hS (Nat.zero_le _) ?_
  clear hS; intro i a w F hC hS
  try dsimp only at hC
  try dsimp only at hS
  have hi0 := hC
  have hsl := setTo_len i hi0
  refine wp_seq (wp_seq ?_)
  refine region_q hS
    (cF rfl (oM .t) r1 trivial
    (cF rfl (oM .t) r1 trivial
    (cF rfl (o_len_bs Tryd.underlying9 .t) r1 trivial
    (cF rfl (o_lss .t .t) r2 trivial
    Chain.nil))))
    hB ?_
  clear hS; intro a w F hS
  obtain ⟨F, hS⟩ := hS.nm [9, 8, 7, 6, 4, 2, 0] [101, 0] rfl rfl
  refine then_n ?_
  refine cond_b hS rfl (fun hc0 => ?_) (fun hc0 => ?_)
  ·skip
   have hi : i < 10 := by have h9 := of_decide_eq_true hc0; have : (i : Int) < 10 := h9; omega
   refine wp_skip (then_n (wp_seq (wp_block (wp_seq ?_))))
   refine region_q hS
     (cF rfl (oM .t) r1 trivial
     (cF rfl (oM .t) r1 trivial
     (cF rfl (o_index_bs Tryd.underlying9 .t .t (by omega) (by show (i : Int) < 10; omega)) r2 trivial
     (cF rfl (oN .t) r1 trivial
     Chain.nil))))
     hB ?_
   clear hS; intro a w F hS
   obtain ⟨F, hS⟩ := hS.nm [14, 13, 12, 9, 8, 7, 6, 5, 4, 2, 0] [101, 0] rfl rfl
   rw [Int.toNat_natCast] at hS
   refine then_n (wp_seq (wp_seq ?_))
   refine region_q hS
     (cF rfl (oM .t) r1 trivial
     (cF rfl (o_geq .t (.ci (by kernel_rfl))) r1 trivial
     Chain.nil))
     hB ?_
   clear hS; intro a w F hS
   obtain ⟨F, hS⟩ := hS.nm [16, 15, 14, 13, 12, 9, 8, 7, 6, 5, 4, 2, 0] [101, 0] rfl rfl
   refine then_n ?_
   refine cond_b hS rfl (fun hc1 => ?_) (fun hc1 => ?_)
   ·skip
    have h9 := tenL_low i hi
    have h8 := of_decide_eq_true hc1
    omega
   refine wp_skip (then_n ?_)
   refine region_q hS
     (cF rfl (oM .t) r1 trivial
     (cF rfl (o_indexAddr_ab (sz := 1) 101 Tryd.underlying95 (by kernel_rfl) .is .t (by omega) (by have := (nth tenL i).toNat_lt; omega)) r2 r1
     (cF rfl (o_store_ab 101 .adr .cb one_bool (by kernel_rfl) (by simp; have := (nth tenL i).toNat_lt; omega)) r1 r1
     Chain.nil)))
     hB ?_
   clear hS; intro a w F hS
   obtain ⟨F, hS⟩ := hS.nm [19, 18, 16, 15, 14, 13, 12, 9, 8, 7, 6, 5, 4, 2, 0] [101, 0] rfl rfl
   try dsimp only [List.map, stCells, xL, xM, Nat.reduceAdd, xD, xE, xT, xU, xC, xN, zCF] at hS
   refine block_n (then_n ?_)
   refine region_q hS
     (cF rfl (oM .t) r1 trivial
     (cF rfl (o_add .t (.ci (by kernel_rfl))) r1 trivial
     (cF rfl (oN .t) r1 trivial
     Chain.nil)))
     hB ?_
   clear hS; intro a w F hS
   obtain ⟨F, hS⟩ := hS.nm [19, 18, 16, 15, 14, 13, 12, 11, 10, 9, 8, 7, 6, 5, 4, 2, 0] [101, 0] rfl rfl
   refine then_n ?_
   simp only [Int.toNat_natCast, Nat.zero_add, Nat.mul_one] at hS
   rw [← setTo_next i hi] at hS
   replace hS := hS.ent (i := 4) (s' := .pv (.int .i64 ((i + 1 : Nat) : Int))) rfl (.int (wrap_succ (by omega)))
   obtain ⟨F, hS⟩ := hS.nm [4, 2, 0] [101, 0] rfl rfl
   exact ⟨i + 1, F, (by omega), hS, by omega⟩
  have hi : i = 10 := by have h9 := of_decide_eq_false hc0; have : ¬ (i : Int) < 10 := h9; omega
  subst hi
  refine wp_exit (then_x (then_x (block_x (then_n (wp_seq ?_)))))
  refine region_q hS
    (cF rfl (o_load_all (sz := 256) 101 .is (by kernel_rfl) (by kernel_rfl) (setTo_len 10 (by decide))) r1 r1
    (cF rfl (o_store_all (sz := 256) 101 .is .t (by kernel_rfl) (setTo_len 10 (by decide)) (setTo_len 10 (by decide))) r2 r1
    (cF rfl (oN .cb) trivial trivial
    Chain.nil)))
    hB ?_
  clear hS; intro a w F hS
  obtain ⟨F, hS⟩ := hS.nm [3, 2] [101, 0] rfl rfl
  try dsimp only [List.map, stCells, xL, xM, Nat.reduceAdd, xD, xE, xT, xU, xC, xN, zCF, ldSF] at hS
  refine then_n (wp_ret ?_)
  replace hS := hS.turn 101 rfl arrB_pt
  refine ret_P hfr hS rfl (.cell (n := 101) (ag := true) (sz := 256) rfl .is rfl (by kernel_rfl) (by kernel_rfl) (by simp [wid, setTo_len]) (.tmp rfl .nil)) (.two ?_ .refl)
  rw [ld_all _ _ 256 rfl]
  have hp := Ent.pagg (l := setL.map (fun x => PV.bool x))
  rw [List.map_map] at hp
  exact hp

theorem trimR_len (s : List UInt8) : (trimR s).length ≤ s.length := by
  unfold trimR
  rw [List.length_reverse]
  have := List.takeWhile_append_dropWhile (p := digit) (l := s.reverse)
  have := congrArg List.length this
  rw [List.length_append, List.length_reverse] at this
  omega

theorem trim_c (s0 : List UInt8) (hne : s0 ≠ []) (hs : s0.length ≤ 9223372036854775807) : FnP Tryd.prog 44 [.bs s0, .bs tenL] (.bs ((trimR s0).dropWhile digit)) := by
  refine FnP.mk Tryd.func44 rfl Tryd.ntmps44 rfl ?_
  intro B a w F hB hfr hS
  refine wp_seq ?_
  refine region_q hS
    (cF rfl (oN (.cs (by kernel_rfl))) trivial trivial
    Chain.nil)
    hB ?_
  clear hS; intro a w F hS
  obtain ⟨F, hS⟩ := hS.nm [4, 1, 0] [0] rfl rfl
  refine then_n (wp_seq (wp_seq ?_))
  refine region_q hS
    (cF rfl (oM .t) r1 trivial
    (cF rfl (o_eql_bs Tryd.underlying9 .t (.cs (by kernel_rfl))) r1 trivial
    (cF rfl (oM .t) r1 trivial
    (Chain.cons (Cert.cond rfl rfl (fun h => o_move .t (by rfl))) r2 trivial
    (Chain.cons (Cert.cond rfl rfl (fun h => o_eql_bs Tryd.underlying9 (.w h) (.cs (by kernel_rfl)))) r2 trivial
    (cF rfl (o_or2 .t .t) r2 trivial
    Chain.nil))))))
    hB ?_
  clear hS; intro a w F hS
  obtain ⟨F, hS⟩ := hS.nm [12, 4, 1, 0] [0] rfl rfl
  refine then_n ?_
  refine cond_b hS rfl (fun hc0 => ?_) (fun hc0 => ?_)
  ·skip
   have h9 : ¬ (s0 = [] ∨ tenL = []) := by simp [hne, tenL]
   simp at hc0
   exact absurd hc0 h9
  refine wp_skip (then_n (wp_seq (wp_seq ?_)))
  refine region_q hS
    (cF rfl (oM .t) r1 trivial
    (cF rfl (o_len_bs Tryd.underlying9 .t) r1 trivial
    (cF rfl (o_eql .t (.ci (by kernel_rfl))) r1 trivial
    (cF rfl (oM .t) r1 trivial
    (Chain.cons (Cert.cond rfl rfl (fun h => o_move .t (by rfl))) r2 trivial
    (Chain.cons (Cert.cond rfl rfl (fun h => o_index_bs Tryd.underlying9 (.w h) (.ci (by kernel_rfl)) (by decide) (by decide))) r2 trivial
    (Chain.cons (Cert.cond rfl rfl (fun h => o_lss (.w h) (.ci (by kernel_rfl)))) r2 trivial
    (cF rfl (o_and2 .t .t) r2 trivial
    Chain.nil))))))))
    hB ?_
  clear hS; intro a w F hS
  obtain ⟨F, hS⟩ := hS.nm [21, 4, 1, 0] [0] rfl rfl
  refine then_n ?_
  refine cond_b hS rfl (fun hc1 => ?_) (fun hc1 => ?_)
  ·skip
   simp [tenL] at hc1
  refine wp_skip (then_n (wp_seq (wp_seq ?_)))
  refine region_q hS
    (cF rfl (oM .t) r1 trivial
    (cF rfl (oP (makeSet_c) Tryd.func50 (Args.one .t)) r1 trivial
    (cF rfl (oM .t) r1 trivial
    (cF rfl (o_extract .t rfl) r1 trivial
    (cF rfl (o_extract .t rfl) r1 trivial
    (cF rfl (o_allocA (f := (fun x => PV.bool x)) (n := 256) (zv := .bool false) (z := false) 101 (by kernel_rfl) rfl) trivial trivial
    (cF rfl (o_store_all (sz := 256) 101 .same .t (by kernel_rfl) rfl rfl) r2 r1
    (cF rfl (oN .t) r1 trivial
    Chain.nil))))))))
    hB ?_
  clear hS; intro a w F hS
  replace hS := hS.sub
  obtain ⟨F, hS⟩ := hS.nm [6, 5, 4, 1, 0] [101, 0] rfl rfl
  try dsimp only [RS.sub, SF.sub, CF.sub, csub, Anc.sub, List.map, stCells, xL, xM, Nat.reduceAdd, xD, xE, xT, xU, xC, xN, zCF] at hS
  generalize Act.tau a 5 = v5 at hS
  replace hS := hS.turn 101 rfl arrB_pt
  obtain ⟨F, hS⟩ := hS.giveRef 101 5 rfl rfl (okCF_map _ _)
  rw [unCF_map] at hS
  obtain ⟨F, hS⟩ := hS.nm [6, 5, 4, 1, 0] [0] rfl rfl
  refine then_n (wp_seq ?_)
  refine region_q hS
    (cF rfl (oM .t) r1 trivial
    Chain.nil)
    hB ?_
  clear hS; intro a w F hS
  obtain ⟨F, hS⟩ := hS.nm [34, 5, 4, 1, 0] [0] rfl rfl
  refine then_n ?_
  refine cond_b hS rfl (fun hc2 => ?_) (fun hc2 => ?_)
  ·skip
   refine wp_seq ?_
   refine region_q hS
     (cF rfl (oM .t) r1 trivial
     (cF rfl (oP (trimR_c s0 hs) Tryd.func52 (Args.two .t .t)) r2 trivial
     (cF rfl (oP (trimL_c (trimR s0) (by have := trimR_len s0; omega)) Tryd.func51 (Args.two .t .t)) r2 trivial
     (cF rfl (oN .t) r1 trivial
     Chain.nil))))
     hB ?_
   clear hS; intro a w F hS
   obtain ⟨F, hS⟩ := hS.nm [4, 1, 0] [0] rfl rfl
   refine then_n (wp_ret (then_r ?_))
   refine ret_P hfr hS rfl (.tmp rfl .nil) (.one .refl)
  simp at hc2

theorem figures_c (s0 : List UInt8) (hs : s0.length ≤ 9223372036854775807) : FnP Tryd.prog 36 [.bs s0] (.bool (figs s0)) := by
  refine FnP.mk Tryd.func36 rfl Tryd.ntmps36 rfl ?_
  intro B a w F hB hfr hS
  refine wp_seq ?_
  refine region_q hS
    (cF rfl (oN .cb) trivial trivial
    Chain.nil)
    hB ?_
  clear hS; intro a w F hS
  obtain ⟨F, hS⟩ := hS.nm [2, 0] [0] rfl rfl
  refine then_n (wp_seq ?_)
  refine region_q hS
    (cF rfl (oM .t) r1 trivial
    (cF rfl (o_neq_bs Tryd.underlying9 .t (.cs (by kernel_rfl))) r1 trivial
    (cF rfl (oM .t) r1 trivial
    (Chain.cons (Cert.cond rfl rfl (fun h => o_move .t (by rfl))) r2 trivial
    (Chain.cons (Cert.cond rfl rfl (fun h => o_callP (trim_c s0 (by simpa using h) hs) Tryd.func44 rfl (by kernel_rfl) (Args.two (.w h) (.cs (by kernel_rfl))))) r2 trivial
    (Chain.cons (Cert.cond rfl rfl (fun h => o_eql_bs Tryd.underlying9 (.w h) (.cs (by kernel_rfl)))) r2 trivial
    (cF rfl (o_and2 .t .t) r2 trivial
    (cF rfl (oN .t) r1 trivial
    Chain.nil))))))))
    hB ?_
  clear hS; intro a w F hS
  obtain ⟨F, hS⟩ := hS.nm [2] [0] rfl rfl
  refine then_n (wp_ret ?_)
  refine ret_P hfr hS rfl (.tmp rfl .nil) (.one (.bool (by unfold figs; rw [Bool.eq_iff_iff]; simp [trim_all])))

end Go.Proofs.YtpjjmolibanakaaDoor
