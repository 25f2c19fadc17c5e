/- Components: touch, change. No condition beyond those that each theorem says. -/
import Derived.Test.YtpahapjcdldodaaDoorCo7
namespace Go.Proofs.YtpahapjcdldodaaDoor
open Go Go.Gm
set_option linter.unusedVariables false
set_option linter.unusedSimpArgs false
set_option maxHeartbeats 4000000
set_option maxRecDepth 8000


theorem touch_c (b n : Nat) (q : List PairD) (sx : CoS) (u : Int) : FnG Tryd.prog 81 1 [.is (.pointer (some ⟨b, 0, none⟩)), .int .i64 u] [coT (.pointer (some ⟨b, 0, none⟩)) n q sx] (.tup []) (fun _ => [coT (.pointer (some ⟨b, 0, none⟩)) n q { sx with D := touchD n q u sx.D }]) := by
  refine FnG.mk Tryd.func81 rfl Tryd.ntmps81 rfl (by kernel_rfl) ?_
  intro B F0 a w F hB hG hS
  obtain ⟨hk, hS⟩ := hS.open_and 1 rfl
  dsimp only [coParts] at hS
  obtain ⟨F, hS⟩ := hS.peel 1 2 rfl rfl
  obtain ⟨F, hS⟩ := hS.peel 1 3 rfl rfl
  obtain ⟨F, hS⟩ := hS.peel 1 4 rfl rfl
  obtain ⟨F, hS⟩ := hS.peel 1 5 rfl rfl
  obtain ⟨F, hS⟩ := hS.peel 1 8 rfl rfl
  obtain ⟨F, hS⟩ := hS.peel 1 6 rfl rfl
  obtain ⟨F, hS⟩ := hS.peel 1 7 rfl rfl
  obtain ⟨F, hS⟩ := hS.peel 1 10 rfl rfl
  have hhi := hk.hi
  have hnl : sx.ns.length = n := hk.nl
  have hkl : sx.ks.length = n := hk.kl
  have hml : sx.ms.length = n := hk.ml
  have hinn := hk.inn
  have hup := hk.up
  have hql := hk.len
  obtain ⟨F, hS⟩ := hS.nm [1, 0] [10, 8, 7, 6, 5, 4, 3, 2, 0] rfl rfl
  refine wp_seq ?_
  refine region_q hS
    (cF rfl (oM .t) r1 trivial
    (cF rfl (o_nilCheck 2 .is (by rfl)) r1 r1
    (cF rfl (oF 4 2 .adr) r1 r1
    (cF rfl (oL false 1 2 .adr) r1 r1
    (cF rfl (oM .t) r1 trivial
    (cF rfl (o_callG1 10 (setV_c sx.dv n sx.D u true) Tryd.func46 rfl (by kernel_rfl) (Args.three .t .t .cb)) r2 r1
    Chain.nil))))))
    hB ?_
  clear hS; intro a w F hS
  obtain ⟨F, hS⟩ := hS.nm [1, 0] [10, 8, 7, 6, 5, 4, 3, 2, 0] rfl rfl
  try dsimp only [List.map, xD, xE, xT, xU, ldSF, rV, rMk, mapS, rInt] at hS
  refine then_n (wp_seq ?_)
  replace hS := hS.fresh 50 rfl
  refine region_q hS
    (cF rfl (oM .t) r1 trivial
    (cF rfl (oM .t) r1 trivial
    (cF rfl (OpC.lendL (ls := coLs 2 3 4 6 _ _ _ _ _ _ _ _ _ _) [12] (co_lend (by omega)) (o_callN 50 (members_c n q u hhi hinn hql) Tryd.func37 rfl (by kernel_rfl) (Args.two .t .t) pvOne1) ⟨rfl, trivial, trivial⟩ (fun _ _ _ _ _ h => h) row_free1 (by simp [coLs, RS.deps, Anc.deps, cdeps, CF.deps, RS.hp]) (by rfl)) r2 r5
    (cF rfl (o_len_row 50 Tryd.underlying30 .same) r1 r1
    (cF rfl (oM (.ci (by kernel_rfl))) trivial trivial
    Chain.nil)))))
    hB ?_
  clear hS; intro a w F hS
  replace hS := hS.sub
  obtain ⟨F, hS⟩ := hS.nm [16, 15, 14, 0] [50, 10, 8, 7, 6, 5, 4, 3, 2, 0] rfl rfl
  try dsimp only [RS.sub, SF.sub, CF.sub, csub, Anc.sub, List.map, rV, rMk, mapS, rInt] at hS
  generalize Act.tau a 14 = v14 at hS
  obtain ⟨F, hS⟩ := hS.give 50 14 rfl rfl
  obtain ⟨F, hS⟩ := hS.nm [16, 15, 14, 0] [10, 8, 7, 6, 5, 4, 3, 2, 0] rfl rfl
  have hmbl := up_len (memB_up n q u)
  refine then_n (wp_block ?_)
  refine loop_keep (σ := (Nat)) [0, 14, 15] [0, 2, 3, 4, 5, 6, 7, 8] (fun s => [(16, .pv (.int .i64 (s : Int)))]) (fun s => [(10, RS.hp (setH sx.dv n (orL (putL sx.D n u true) n ((memB n q u).take s))))]) (fun s => s ≤ (memB n q u).length ∧ (True)) (fun s => (memB n q u).length - s) (0) hS ⟨rfl, rfl, rfl, rfl, trivial⟩ ⟨rfl, rfl, rfl, rfl, rfl, rfl, rfl, rfl, rfl, trivial⟩ ⟨Nat.zero_le _, trivial⟩ ?_
  clear hS; intro i a w F hC hS
  try dsimp only at hC
  obtain ⟨F, hS⟩ := hS.nm [16, 15, 14, 0] [10, 8, 7, 6, 5, 4, 3, 2, 0] rfl rfl
  try dsimp only at hS
  obtain ⟨hi, hq⟩ := hC
  refine wp_seq ?_
  refine region_q hS
    (cF rfl (o_lss .t .t) r2 trivial
    Chain.nil)
    hB ?_
  clear hS; intro a w F hS
  obtain ⟨F, hS⟩ := hS.nm [17, 16, 15, 14, 0] [10, 8, 7, 6, 5, 4, 3, 2, 0] rfl rfl
  try dsimp only [rV, rMk, mapS, rInt] at hS
  refine then_n (wp_seq ?_)
  refine cond_b hS rfl (fun hc0 => ?_) (fun hc0 => ?_)
  ·skip
   have hil : i < (memB n q u).length := by simp at hc0; omega
   refine wp_skip (then_n (wp_seq (wp_block (wp_seq ?_))))
   refine region_q hS
     (cF rfl (o_indexAddr_sl (sz := 1) (.mk Tryd.underlying30 (by kernel_rfl)) (by intro x; rfl) .t .t (by omega) (by omega)) r2 trivial
     (cF rfl (oR false 1 .t) r1 trivial
     (cF rfl (oN .t) r1 trivial
     Chain.nil)))
     hB ?_
   clear hS; intro a w F hS
   obtain ⟨F, hS⟩ := hS.nm [16, 15, 14, 5, 0] [10, 8, 7, 6, 5, 4, 3, 2, 0] rfl rfl
   try dsimp only [List.map, xD, xE, xT, xU, ldSF, rV, rMk, mapS, rInt] at hS
   try simp only [Int.toNat_natCast] at hS
   refine then_n ?_
   refine region_q hS
     (cF rfl (oM .t) r1 trivial
     (cF rfl (o_nilCheck 2 .is (by rfl)) r1 r1
     (cF rfl (oF 4 2 .adr) r1 r1
     (cF rfl (oL false 1 2 .adr) r1 r1
     (cF rfl (oM .t) r1 trivial
     (cF rfl (o_callG1 10 (setV_c sx.dv n (orL (putL sx.D n u true) n ((memB n q u).take i)) (Go.Gm.nth (memB n q u) i) true) Tryd.func46 rfl (by kernel_rfl) (Args.three .t .t .cb)) r2 r1
     Chain.nil))))))
     hB ?_
   clear hS; intro a w F hS
   obtain ⟨F, hS⟩ := hS.nm [16, 15, 14, 0] [10, 8, 7, 6, 5, 4, 3, 2, 0] rfl rfl
   try dsimp only [List.map, xD, xE, xT, xU, ldSF, rV, rMk, mapS, rInt] at hS
   rw [touch_fold _ _ _ _ hil] at hS
   refine block_n (then_n ?_)
   refine region_q hS
     (cF rfl (o_add .t (.ci (by kernel_rfl))) r1 trivial
     (cF rfl (oM .t) r1 trivial
     Chain.nil))
     hB ?_
   clear hS; intro a w F hS
   obtain ⟨F, hS⟩ := hS.nm [16, 15, 14, 0] [10, 8, 7, 6, 5, 4, 3, 2, 0] rfl rfl
   try dsimp only [rV, rMk, mapS, rInt] at hS
   refine then_n ?_
   replace hS := hS.ent (i := 16) (s' := .pv (.int .i64 ((i + 1 : Nat) : Int))) rfl (.int (wrap_succ (by omega)))
   obtain ⟨F, hS⟩ := hS.nm [15, 14, 0, 16] [8, 7, 6, 5, 4, 3, 2, 0, 10] rfl rfl
   exact ⟨(i + 1), F, ⟨by omega, trivial⟩, hS, by omega⟩
  have hil : i = (memB n q u).length := by simp at hc0; omega
  rw [hil, List.take_length] at hS
  refine wp_exit (then_x (then_x (block_x ?_)))
  have hS := hS.fresh 1 rfl
  obtain ⟨F, hS⟩ := hS.push 1 10 rfl rfl rfl (by kernel_rfl)
  obtain ⟨F, hS⟩ := hS.push 1 7 rfl rfl rfl (by kernel_rfl)
  obtain ⟨F, hS⟩ := hS.push 1 6 rfl rfl rfl (by kernel_rfl)
  obtain ⟨F, hS⟩ := hS.push 1 8 rfl rfl rfl (by kernel_rfl)
  obtain ⟨F, hS⟩ := hS.push 1 5 rfl rfl rfl (by kernel_rfl)
  obtain ⟨F, hS⟩ := hS.push 1 4 rfl rfl rfl (by kernel_rfl)
  obtain ⟨F, hS⟩ := hS.push 1 3 rfl rfl rfl (by kernel_rfl)
  obtain ⟨F, hS⟩ := hS.push 1 2 rfl rfl rfl (by kernel_rfl)
  have hS := hS.turn 1 rfl (r' := RS.hp (coT (.pointer (some ⟨b, 0, none⟩)) n q { sx with D := touchD n q u sx.D })) (fun _ _ _ _ h => ⟨⟨hk.hi, hk.inn, hk.len, hk.nl, hk.kl, hk.ml, touchD_up hk.up⟩, h⟩)
  obtain ⟨F, hS⟩ := hS.nm [17, 16, 15, 14, 0] [1, 0] rfl rfl
  refine ret_G1 hG hS rfl .nil .none rfl

theorem change_c (b n : Nat) (q : List PairD) (sx : CoS) (u v kd : Int) (f : FuncId) (fn : Func) (hf : Tryd.prog.funcs[f]? = some fn) (hb : fn.body.isSome = true) (hnn : (fn.name == "runtime.NumGoroutine") = false) (hw : ∀ q last, q.length < 1000000 → FnG Tryd.prog f 1 [.is sx.av, .int .i64 u, .int .i64 v] [clH sx.av n q last] (.int .i64 (stepQ n q (⟨kd, u, v⟩ : Deed4)).2) (fun _ => [clH sx.av n (stepQ n q (⟨kd, u, v⟩ : Deed4)).1 (lastD n q last (⟨kd, u, v⟩ : Deed4))])) (hq1 : q.length < 1000000) : FnG Tryd.prog 64 1 [.is (.pointer (some ⟨b, 0, none⟩)), .int .i64 u, .int .i64 v, PV.clos1 f [.is sx.av]] [coT (.pointer (some ⟨b, 0, none⟩)) n q sx] (.int .i64 (stepQ n q (⟨kd, u, v⟩ : Deed4)).2) (fun _ => [coT (.pointer (some ⟨b, 0, none⟩)) n (stepQ n q (⟨kd, u, v⟩ : Deed4)).1 (chS n q (⟨kd, u, v⟩ : Deed4) sx)]) := by
  refine FnG.mk Tryd.func64 rfl Tryd.ntmps64 rfl (by kernel_rfl) ?_
  intro B F0 a w F hB hG hS
  refine wp_seq ?_
  refine region_q hS
    (cF rfl (oN (.ci (by kernel_rfl))) trivial trivial
    Chain.nil)
    hB ?_
  clear hS; intro a w F hS
  obtain ⟨F, hS⟩ := hS.nm [8, 3, 2, 1, 0] [1, 0] rfl rfl
  try dsimp only [rV, rMk, mapS, rInt] at hS
  refine then_n (wp_seq (wp_seq ?_))
  refine region_q hS
    (cF rfl (oM .t) r1 trivial
    (cF rfl (o_lss .t (.ci (by kernel_rfl))) r1 trivial
    (cF rfl (oM .t) r1 trivial
    (Chain.cons (Cert.cond rfl rfl (fun h => o_move .t (by rfl))) r2 trivial
    (Chain.cons (Cert.cond rfl rfl (fun h => o_move .t (by rfl))) r2 trivial
    (Chain.cons (Cert.cond rfl rfl (fun h => OpC.lend 1 [14] coT_read (oP (coNodes_c n q) Tryd.func29 (Args.one (.w h))) ⟨rfl, trivial⟩ (.pv (fun _ _ _ _ h => h)) trivial (by rfl))) r2 r1
    (Chain.cons (Cert.cond rfl rfl (fun h => o_geq (.w h) (.w h))) r3 trivial
    (cF rfl (o_or2 .t .t) r2 trivial
    (cF rfl (oM .t) r1 trivial
    (Chain.cons (Cert.cond rfl rfl (fun h => o_move .t (by rfl))) r2 trivial
    (Chain.cons (Cert.cond rfl rfl (fun h => o_lss (.w h) (.ci (by kernel_rfl)))) r2 trivial
    (cF rfl (o_or2 .t .t) r2 trivial
    (cF rfl (oM .t) r1 trivial
    (Chain.cons (Cert.cond rfl rfl (fun h => o_move .t (by rfl))) r2 trivial
    (Chain.cons (Cert.cond rfl rfl (fun h => o_move .t (by rfl))) r2 trivial
    (Chain.cons (Cert.cond rfl rfl (fun h => OpC.lend 1 [24] coT_read (oP (coNodes_c n q) Tryd.func29 (Args.one (.w h))) ⟨rfl, trivial⟩ (.pv (fun _ _ _ _ h => h)) trivial (by rfl))) r2 r1
    (Chain.cons (Cert.cond rfl rfl (fun h => o_geq (.w h) (.w h))) r3 trivial
    (cF rfl (o_or2 .t .t) r2 trivial
    Chain.nil))))))))))))))))))
    hB ?_
  clear hS; intro a w F hS
  obtain ⟨F, hS⟩ := hS.nm [27, 8, 3, 2, 1, 0] [1, 0] rfl rfl
  try dsimp only [rV, rMk, mapS, rInt] at hS
  refine then_n ?_
  refine cond_b hS rfl (fun hc0 => ?_) (fun hc0 => ?_)
  ·skip
   have hnt : ¬ (There n u ∧ There n v) := by rintro ⟨h1, h2⟩; unfold There at h1 h2; simp at h1 h2 hc0; omega
   have hg : stepQ n q (⟨kd, u, v⟩ : Deed4) = (q, 1) := stepQ_out hnt
   refine wp_seq ?_
   refine region_q hS
     (cF rfl (oN (.ci (by kernel_rfl))) trivial trivial
     Chain.nil)
     hB ?_
   clear hS; intro a w F hS
   obtain ⟨F, hS⟩ := hS.nm [8, 3, 2, 1, 0] [1, 0] rfl rfl
   try dsimp only [rV, rMk, mapS, rInt] at hS
   refine then_n (wp_ret (then_r ?_))
   have hS := hS.turn 1 rfl (r' := RS.hp (coT (.pointer (some ⟨b, 0, none⟩)) n (stepQ n q (⟨kd, u, v⟩ : Deed4)).1 (chS n q (⟨kd, u, v⟩ : Deed4) sx))) (by rw [hg]; unfold chS; rw [if_neg hnt]; exact fun _ _ _ _ h => h)
   refine ret_G1 hG hS rfl (.tmp rfl .nil) (.one (.int (by rw [hg]))) rfl
  have hth : There n u ∧ There n v := by simp at hc0; unfold There; omega
  obtain ⟨hthu, hthv⟩ := hth
  obtain ⟨U, rfl⟩ := Int.eq_ofNat_of_zero_le hthu.1
  obtain ⟨Z, rfl⟩ := Int.eq_ofNat_of_zero_le hthv.1
  have hUn : U < n := by have := hthu.2; omega
  have hZn : Z < n := by have := hthv.2; omega
  refine wp_skip (then_n (wp_seq ?_))
  refine region_q hS
    (cF rfl (oM .t) r1 trivial
    (cF rfl (oM .t) r1 trivial
    (cF rfl (o_callG1 1 (touch_c b n q sx (U : Int)) Tryd.func81 rfl (by kernel_rfl) (Args.two .t .t)) r2 r1
    Chain.nil)))
    hB ?_
  clear hS; intro a w F hS
  obtain ⟨F, hS⟩ := hS.nm [8, 3, 2, 1, 0] [1, 0] rfl rfl
  try dsimp only [rV, rMk, mapS, rInt] at hS
  obtain ⟨hk, hS⟩ := hS.open_and 1 rfl
  dsimp only [coParts] at hS
  obtain ⟨F, hS⟩ := hS.peel 1 2 rfl rfl
  obtain ⟨F, hS⟩ := hS.peel 1 3 rfl rfl
  obtain ⟨F, hS⟩ := hS.peel 1 4 rfl rfl
  obtain ⟨F, hS⟩ := hS.peel 1 5 rfl rfl
  obtain ⟨F, hS⟩ := hS.peel 1 8 rfl rfl
  obtain ⟨F, hS⟩ := hS.peel 1 6 rfl rfl
  obtain ⟨F, hS⟩ := hS.peel 1 7 rfl rfl
  obtain ⟨F, hS⟩ := hS.peel 1 10 rfl rfl
  have hhi := hk.hi
  have hnl : sx.ns.length = n := hk.nl
  have hkl : sx.ks.length = n := hk.kl
  have hml : sx.ms.length = n := hk.ml
  have hinn := hk.inn
  have hup := hk.up
  have hql := hk.len
  obtain ⟨F, hS⟩ := hS.nm [8, 3, 2, 1, 0] [10, 8, 7, 6, 5, 4, 3, 2, 0] rfl rfl
  refine then_n (wp_seq ?_)
  refine region_q hS
    (cF rfl (oM .t) r1 trivial
    (cF rfl (oM .t) r1 trivial
    (cF rfl (oM .t) r1 trivial
    (cF rfl (o_callClos1 3 .t (hw q sx.last hq1) hf hb hnn (Args.two .t .t)) r3 r1
    (cF rfl (oN .t) r1 trivial
    Chain.nil)))))
    hB ?_
  clear hS; intro a w F hS
  obtain ⟨F, hS⟩ := hS.nm [9, 8, 2, 1, 0] [10, 8, 7, 6, 5, 4, 3, 2, 0] rfl rfl
  try dsimp only [rV, rMk, mapS, rInt] at hS
  refine then_n (wp_seq (wp_seq ?_))
  refine region_q hS
    (cF rfl (oM .t) r1 trivial
    (cF rfl (o_neq .t (.ci (by kernel_rfl))) r1 trivial
    Chain.nil))
    hB ?_
  clear hS; intro a w F hS
  obtain ⟨F, hS⟩ := hS.nm [36, 9, 8, 2, 1, 0] [10, 8, 7, 6, 5, 4, 3, 2, 0] rfl rfl
  try dsimp only [rV, rMk, mapS, rInt] at hS
  refine then_n ?_
  refine cond_b hS rfl (fun hc1 => ?_) (fun hc1 => ?_)
  ·skip
   have he0 : ¬ (stepQ n q (⟨kd, (U : Int), (Z : Int)⟩ : Deed4)).2 = 0 := by simpa using hc1
   have hqs : (stepQ n q (⟨kd, (U : Int), (Z : Int)⟩ : Deed4)).1 = q := stepQ_same he0
   have hls : lastD n q sx.last (⟨kd, (U : Int), (Z : Int)⟩ : Deed4) = sx.last := by unfold lastD; rw [if_neg he0]
   rw [hqs, hls] at hS
   have hS := hS.fresh 1 rfl
   obtain ⟨F, hS⟩ := hS.push 1 10 rfl rfl rfl (by kernel_rfl)
   obtain ⟨F, hS⟩ := hS.push 1 7 rfl rfl rfl (by kernel_rfl)
   obtain ⟨F, hS⟩ := hS.push 1 6 rfl rfl rfl (by kernel_rfl)
   obtain ⟨F, hS⟩ := hS.push 1 8 rfl rfl rfl (by kernel_rfl)
   obtain ⟨F, hS⟩ := hS.push 1 5 rfl rfl rfl (by kernel_rfl)
   obtain ⟨F, hS⟩ := hS.push 1 4 rfl rfl rfl (by kernel_rfl)
   obtain ⟨F, hS⟩ := hS.push 1 3 rfl rfl rfl (by kernel_rfl)
   obtain ⟨F, hS⟩ := hS.push 1 2 rfl rfl rfl (by kernel_rfl)
   have hS := hS.turn 1 rfl (r' := RS.hp (coT (.pointer (some ⟨b, 0, none⟩)) n q { sx with D := touchD n q (U : Int) sx.D })) (fun _ _ _ _ h => ⟨hk, h⟩)
   obtain ⟨F, hS⟩ := hS.nm [36, 9, 8, 2, 1, 0] [1, 0] rfl rfl
   refine wp_seq ?_
   refine region_q hS
     (cF rfl (oM .t) r1 trivial
     (cF rfl (oN .t) r1 trivial
     Chain.nil))
     hB ?_
   clear hS; intro a w F hS
   obtain ⟨F, hS⟩ := hS.nm [8, 2, 1, 0] [1, 0] rfl rfl
   try dsimp only [rV, rMk, mapS, rInt] at hS
   refine then_n (wp_ret (then_r ?_))
   have hS := hS.turn 1 rfl (r' := RS.hp (coT (.pointer (some ⟨b, 0, none⟩)) n (stepQ n q (⟨kd, (U : Int), (Z : Int)⟩ : Deed4)).1 (chS n q (⟨kd, (U : Int), (Z : Int)⟩ : Deed4) sx))) (by rw [hqs]; unfold chS; rw [if_pos ⟨hthu, hthv⟩, if_neg he0]; exact fun _ _ _ _ h => h)
   refine ret_G1 hG hS rfl (.tmp rfl .nil) (.one (.int rfl)) rfl
  have he0 : (stepQ n q (⟨kd, (U : Int), (Z : Int)⟩ : Deed4)).2 = 0 := by simpa using hc1
  refine wp_skip (then_n (wp_seq ?_))
  obtain ⟨F, hS⟩ := hS.takeAt (setP n) 6 60 (U) rfl rfl (famL_at (by omega))
  replace hS := hS.turn 60 rfl (r' := RS.hp (setH (Go.Gm.nth sx.ns U) n (nextQ q n (U : Int)))) (fun _ _ _ _ h => h)
  obtain ⟨F, hS⟩ := hS.nm [36, 9, 8, 2, 1, 0] [60, 10, 8, 7, 6, 5, 4, 3, 2, 0] rfl rfl
  refine region_any (by kernel_rfl) hS (by kernel_rfl)
    (cF rfl (oM .t) r1 trivial
    (cF rfl (o_nilCheck 2 .is (by rfl)) r1 r1
    (cF rfl (oF 1 2 .adr) r1 r1
    (cF rfl (oL false 1 2 .adr) r1 r1
    (cF rfl (oM .t) r1 trivial
    (cF rfl (o_indexAddr_row (sz := 1) 4 (.mk Tryd.underlying69 (by kernel_rfl)) .is .t (by omega) (by omega) (by rfl)) r2 r1
    (cF rfl (o_load_row0 (ag := false) (sz' := 1) (sz := 1) 4 .t (by intro x; rfl) (by rw [Int.toNat_natCast]; omega) (by kernel_rfl) (by kernel_rfl) (by kernel_rfl)) r1 r1
    (cF rfl (oM .t) r1 trivial
    (cF rfl (oM .t) r1 trivial
    (cF rfl (o_nilCheck 2 .is (by rfl)) r1 r1
    (cF rfl (oF 0 2 .adr) r1 r1
    (cF rfl (oL false 1 2 .adr) r1 r1
    (cF rfl (oM .t) r1 trivial
    (cF rfl (oM .t) r1 trivial
    (cF rfl (o_callG1 3 (arcsV_c sx.av n (stepQ n q (⟨kd, (U : Int), (Z : Int)⟩ : Deed4)).1 (lastD n q sx.last (⟨kd, (U : Int), (Z : Int)⟩ : Deed4)) (U : Int) (Z : Int)) Tryd.func16 rfl (by kernel_rfl) (Args.three .t .t .t)) r3 r1
    (cF rfl (o_gtr .t (.ci (by kernel_rfl))) r1 trivial
    (cF rfl (o_callG1 60 (setV_c (Go.Gm.nth sx.ns U) n (nextQ q n (U : Int)) (Z : Int) (decide (0 < arcsN n (stepQ n q (⟨kd, (U : Int), (Z : Int)⟩ : Deed4)).1 (U : Int) (Z : Int)))) Tryd.func46 rfl (by kernel_rfl) (Args.three .t .t .t)) r3 r1
    Chain.nil)))))))))))))))))
    (by kernel_rfl) (by rw [hB]; kernel_rfl) ?_
  clear hS; intro a w F hS
  obtain ⟨F, hS⟩ := hS.nm [8, 1, 0] [60, 10, 8, 7, 6, 5, 4, 3, 2, 0] rfl rfl
  try dsimp only [List.map, xD, xE, xT, xU, ldSF, rV, rMk, mapS, rInt] at hS
  try simp only [Int.toNat_natCast] at hS
  rw [arcs_pos (q := (stepQ n q (⟨kd, (U : Int), (Z : Int)⟩ : Deed4)).1) ⟨hthu, hthv⟩] at hS
  obtain ⟨F, hS⟩ := hS.putAt (setP n) (L := famL sx.ns (fun k => nextQ q n (k : Int))) (x := (Go.Gm.nth sx.ns U, (putL (nextQ q n (U : Int)) n (Z : Int) (decide ((⟨(U : Int), (Z : Int)⟩ : PairD) ∈ (stepQ n q (⟨kd, (U : Int), (Z : Int)⟩ : Deed4)).1))))) 6 60 (U) (by rw [famL_len]; omega) rfl rfl rfl
  rw [famL_set (ps := sx.ns) (f := (fun k => nextQ q n (k : Int))) (g := (fun k => nextQ (stepQ n q (⟨kd, (U : Int), (Z : Int)⟩ : Deed4)).1 n (k : Int))) (k := U) (next_chg (d := (⟨kd, (U : Int), (Z : Int)⟩ : Deed4)) hthv rfl) (fun j _ hj => next_but (d := (⟨kd, (U : Int), (Z : Int)⟩ : Deed4)) (by show (j : Int) ≠ (U : Int); omega))] at hS
  obtain ⟨F, hS⟩ := hS.nm [8, 1, 0] [10, 8, 7, 6, 5, 4, 3, 2, 0] rfl rfl
  have hS := hS.fresh 1 rfl
  obtain ⟨F, hS⟩ := hS.push 1 10 rfl rfl rfl (by kernel_rfl)
  obtain ⟨F, hS⟩ := hS.push 1 7 rfl rfl rfl (by kernel_rfl)
  obtain ⟨F, hS⟩ := hS.push 1 6 rfl rfl rfl (by kernel_rfl)
  obtain ⟨F, hS⟩ := hS.push 1 8 rfl rfl rfl (by kernel_rfl)
  obtain ⟨F, hS⟩ := hS.push 1 5 rfl rfl rfl (by kernel_rfl)
  obtain ⟨F, hS⟩ := hS.push 1 4 rfl rfl rfl (by kernel_rfl)
  obtain ⟨F, hS⟩ := hS.push 1 3 rfl rfl rfl (by kernel_rfl)
  obtain ⟨F, hS⟩ := hS.push 1 2 rfl rfl rfl (by kernel_rfl)
  have hS := hS.turn 1 rfl (r' := RS.hp (coT (.pointer (some ⟨b, 0, none⟩)) n (stepQ n q (⟨kd, (U : Int), (Z : Int)⟩ : Deed4)).1 { sx with D := touchD n q (U : Int) sx.D, last := lastD n q sx.last (⟨kd, (U : Int), (Z : Int)⟩ : Deed4) })) (fun _ _ _ _ h => ⟨⟨hk.hi, stepQ_in hinn, (by have := stepQ_len n q (⟨kd, (U : Int), (Z : Int)⟩ : Deed4); omega), hk.nl, hk.kl, hk.ml, hk.up⟩, h⟩)
  obtain ⟨F, hS⟩ := hS.nm [8, 1, 0] [1, 0] rfl rfl
  refine then_n (wp_seq ?_)
  refine region_q hS
    (cF rfl (oM .t) r1 trivial
    (cF rfl (oM .t) r1 trivial
    (cF rfl (o_callG1 1 (touch_c b n (stepQ n q (⟨kd, (U : Int), (Z : Int)⟩ : Deed4)).1 { sx with D := touchD n q (U : Int) sx.D, last := lastD n q sx.last (⟨kd, (U : Int), (Z : Int)⟩ : Deed4) } (U : Int)) Tryd.func81 rfl (by kernel_rfl) (Args.two .t .t)) r2 r1
    Chain.nil)))
    hB ?_
  clear hS; intro a w F hS
  obtain ⟨F, hS⟩ := hS.nm [8] [1, 0] rfl rfl
  try dsimp only [rV, rMk, mapS, rInt] at hS
  refine then_n (wp_seq ?_)
  refine region_q hS
    (cF rfl (oN (.ci (by kernel_rfl))) trivial trivial
    Chain.nil)
    hB ?_
  clear hS; intro a w F hS
  obtain ⟨F, hS⟩ := hS.nm [8] [1, 0] rfl rfl
  try dsimp only [rV, rMk, mapS, rInt] at hS
  refine then_n (wp_ret ?_)
  have hS := hS.turn 1 rfl (r' := RS.hp (coT (.pointer (some ⟨b, 0, none⟩)) n (stepQ n q (⟨kd, (U : Int), (Z : Int)⟩ : Deed4)).1 (chS n q (⟨kd, (U : Int), (Z : Int)⟩ : Deed4) sx))) (by unfold chS; rw [if_pos ⟨hthu, hthv⟩, if_pos he0]; exact fun _ _ _ _ h => h)
  refine ret_G1 hG hS rfl (.tmp rfl .nil) (.one (.int (by rw [he0]))) rfl

end Go.Proofs.YtpahapjcdldodaaDoor
