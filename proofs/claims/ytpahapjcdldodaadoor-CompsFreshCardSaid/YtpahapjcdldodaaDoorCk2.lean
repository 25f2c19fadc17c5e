/- Arcs: the document. No condition beyond those that each theorem says. -/
import Derived.Test.YtpahapjcdldodaaDoorCk1
namespace Go.Proofs.YtpahapjcdldodaaDoor
open Go Go.Gm
set_option linter.unusedVariables false
set_option linter.unusedSimpArgs false
set_option maxHeartbeats 4000000
set_option maxRecDepth 8000


theorem put10_c (l : List Int) (n : Int) (hl : l.length ≤ 1000000) : FnP Tryd.prog 82 [.sl rInt l, .int .i64 n] (.sl rInt (putI l n)) := by
  refine FnP.mk Tryd.func82 rfl Tryd.ntmps82 rfl ?_
  intro B a w F hB hfr hS
  have hll := Sat.lenSl hS (i := 0) rfl
  refine wp_seq ?_
  refine region_q hS
    (cF rfl (oN (.c rfl)) trivial trivial
    Chain.nil)
    hB ?_
  clear hS; intro a w F hS
  obtain ⟨F, hS⟩ := hS.nm [4, 1, 0] [0] rfl rfl
  try dsimp only [rInt] at hS
  refine then_n (wp_seq ?_)
  refine region_q hS
    (cF rfl (oN (.c rfl)) trivial trivial
    Chain.nil)
    hB ?_
  clear hS; intro a w F hS
  obtain ⟨F, hS⟩ := hS.nm [5, 4, 1, 0] [0] rfl rfl
  try dsimp only [rInt] at hS
  refine then_n (wp_seq ?_)
  refine region_q hS
    (cF rfl (oN .cb) trivial trivial
    Chain.nil)
    hB ?_
  clear hS; intro a w F hS
  obtain ⟨F, hS⟩ := hS.nm [6, 5, 4, 1, 0] [0] rfl rfl
  try dsimp only [rInt] at hS
  refine then_n (wp_seq (wp_seq ?_))
  refine region_q hS
    (cF rfl (oM .t) r1 trivial
    (cF rfl (o_len_sl Tryd.underlying30 .t) r1 trivial
    (cF rfl (oM (.ci (by kernel_rfl))) trivial trivial
    Chain.nil)))
    hB ?_
  clear hS; intro a w F hS
  obtain ⟨F, hS⟩ := hS.nm [11, 10, 9, 6, 5, 4, 1] [0] rfl rfl
  try dsimp only [rInt] at hS
  refine then_n (wp_block ?_)
  replace hS := hS.fresh 50 rfl
  replace hS := hS.turn 50 rfl (nilRow (T := 3) (sz := 1) (R := rInt))
  refine loop_keep (σ := (Nat) × (Bool) × (Value) × (List Int)) [1, 4, 9, 10] [0] (fun s => [(11, .pv (.int .i64 (s.1 : Int))), (6, .pv (.bool s.2.1)), (5, .pv (.is s.2.2.1))]) (fun s => [(50, .ob (.val s.2.2.1) (rowH 3 1 rInt s.2.2.2))]) (fun s => s.1 ≤ l.length ∧ (s.2.2.2 ++ putIR n (l.drop s.1) s.2.1 = putI l n)) (fun s => l.length - s.1) ((0), _, (.slice none 0 0), ([])) hS ⟨rfl, rfl, rfl, rfl, rfl, rfl, rfl, trivial⟩ ⟨rfl, rfl, trivial⟩ ⟨Nat.zero_le _, rfl⟩ ?_
  clear hS; intro s a w F hC hS
  obtain ⟨i, d, v, out⟩ := s
  try dsimp only at hC
  obtain ⟨F, hS⟩ := hS.nm [11, 10, 9, 6, 5, 4, 1] [50, 0] rfl rfl
  try dsimp only at hS
  obtain ⟨hi, hq⟩ := hC
  have hol := congrArg List.length hq
  rw [List.length_append] at hol
  have htl : (putI l n).length ≤ l.length + 1 := putIR_len l false
  refine wp_seq ?_
  refine region_q hS
    (cF rfl (o_lss .t .t) r2 trivial
    Chain.nil)
    hB ?_
  clear hS; intro a w F hS
  obtain ⟨F, hS⟩ := hS.nm [12, 11, 10, 9, 6, 5, 4, 1] [50, 0] rfl rfl
  try dsimp only [rInt] at hS
  refine then_n (wp_seq ?_)
  refine cond_b hS rfl (fun hc0 => ?_) (fun hc0 => ?_)
  ·skip
   have hil : i < l.length := by simp at hc0; omega
   refine wp_skip (then_n (wp_seq (wp_block (wp_seq ?_))))
   refine region_q hS
     (cF rfl (o_indexAddr_sl (sz := 1) (.mk Tryd.underlying30 (by kernel_rfl)) (by intro x; rfl) .t .t (by omega) (by omega)) r2 trivial
     (cF rfl (oR false 1 .t) r1 trivial
     (cF rfl (oN .t) r1 trivial
     Chain.nil)))
     hB ?_
   clear hS; intro a w F hS
   obtain ⟨F, hS⟩ := hS.nm [14, 13, 12, 11, 10, 9, 8, 6, 5, 4, 1] [50, 0] rfl rfl
   try dsimp only [List.map, xD, xE, xT, xU, ldSF, rInt] at hS
   try simp only [Int.toNat_natCast] at hS
   refine then_n (wp_seq (wp_seq ?_))
   refine region_q hS
     (cF rfl (oM .t) r1 trivial
     (cF rfl (o_not .t) r1 trivial
     (cF rfl (oM .t) r1 trivial
     (Chain.cons (Cert.cond rfl rfl (fun h => o_move .t (by rfl))) r2 trivial
     (Chain.cons (Cert.cond rfl rfl (fun h => o_move .t (by rfl))) r2 trivial
     (Chain.cons (Cert.cond rfl rfl (fun h => o_geq (.w h) (.w h))) r3 trivial
     (cF rfl (o_and2 .t .t) r2 trivial
     Chain.nil)))))))
     hB ?_
   clear hS; intro a w F hS
   obtain ⟨F, hS⟩ := hS.nm [21, 20, 19, 18, 17, 16, 15, 14, 13, 12, 11, 10, 9, 8, 6, 5, 4, 1] [50, 0] rfl rfl
   try dsimp only [rInt] at hS
   refine then_n ?_
   refine cond_b hS rfl (fun hc1 => ?_) (fun hc1 => ?_)
   ·skip
    have hA : d = false ∧ n ≤ Go.Gm.nth l i := by simpa using hc1
    refine wp_seq ?_
    refine region_q hS
      (cF rfl (oM .t) r1 trivial
      (cF rfl (oM .t) r1 trivial
      (cF rfl (o_buildSliceE (sz := 1) (zs := [.int .i64 0]) (r := [(0, .tmp 23)]) (l := [_]) Tryd.underlying30 (by kernel_rfl) (by kernel_rfl) (by kernel_rfl) (by kernel_rfl) rfl rfl (.one rfl .t one_int (by kernel_rfl) .nil) rfl) r1 trivial
      (cF rfl (o_append (sz := 1) (bs := 8) 50 (.mk' Tryd.underlying30 (by kernel_rfl) (by kernel_rfl)) (by intro x; rfl) .is (.arr (l' := [n]) .t) (by simp only [List.length_append, List.length_cons, List.length_nil]; omega) (by decide)) ⟨rfl, rfl, trivial⟩ ⟨rfl, trivial⟩
      (cF rfl (oN .t) r1 trivial
      Chain.nil)))))
      hB ?_
    clear hS; intro a w F hS
    replace hS := hS.sub
    obtain ⟨F, hS⟩ := hS.nm [25, 24, 23, 22, 21, 20, 19, 18, 17, 16, 15, 14, 13, 12, 11, 10, 9, 8, 6, 5, 4, 1] [50, 0] rfl rfl
    try dsimp only [RS.sub, SF.sub, CF.sub, csub, Anc.sub, List.map, stCells, xL, xM, Nat.reduceAdd, xD, xE, xT, xU, xC, xN, zCF, rInt] at hS
    generalize Act.tau a 25 = v25 at hS
    refine then_n ?_
    refine region_q hS
      (cF rfl (oN .cb) trivial trivial
      Chain.nil)
      hB ?_
    clear hS; intro a w F hS
    obtain ⟨F, hS⟩ := hS.nm [25, 24, 23, 22, 21, 20, 19, 18, 17, 16, 15, 14, 13, 12, 11, 10, 9, 8, 6, 5, 4, 1] [50, 0] rfl rfl
    try dsimp only [rInt] at hS
    refine then_n (wp_seq ?_)
    refine region_q hS
      (cF rfl (oM .t) r1 trivial
      (cF rfl (oM .t) r1 trivial
      (cF rfl (o_neq .t .t) r2 trivial
      Chain.nil)))
      hB ?_
    clear hS; intro a w F hS
    obtain ⟨F, hS⟩ := hS.nm [28, 27, 26, 25, 24, 23, 22, 21, 20, 19, 18, 17, 16, 15, 14, 13, 12, 11, 10, 9, 8, 6, 5, 4, 1] [50, 0] rfl rfl
    try dsimp only [rInt] at hS
    refine then_n ?_
    refine cond_b hS rfl (fun hc2 => ?_) (fun hc2 => ?_)
    ·skip
     have hBq : ¬ Go.Gm.nth l i = n := by simpa using hc2
     refine region_q hS
       (cF rfl (oM .t) r1 trivial
       (cF rfl (oM .t) r1 trivial
       (cF rfl (o_buildSliceE (sz := 1) (zs := [.int .i64 0]) (r := [(0, .tmp 30)]) (l := [_]) Tryd.underlying30 (by kernel_rfl) (by kernel_rfl) (by kernel_rfl) (by kernel_rfl) rfl rfl (.one rfl .t one_int (by kernel_rfl) .nil) rfl) r1 trivial
       (cF rfl (o_append (sz := 1) (bs := 8) 50 (.mk' Tryd.underlying30 (by kernel_rfl) (by kernel_rfl)) (by intro x; rfl) .is (.arr (l' := [Go.Gm.nth l i]) .t) (by simp only [List.length_append, List.length_cons, List.length_nil]; omega) (by decide)) ⟨rfl, rfl, trivial⟩ ⟨rfl, trivial⟩
       (cF rfl (oN .t) r1 trivial
       Chain.nil)))))
       hB ?_
     clear hS; intro a w F hS
     replace hS := hS.sub
     obtain ⟨F, hS⟩ := hS.nm [32, 31, 30, 29, 28, 27, 26, 25, 24, 23, 22, 21, 20, 19, 18, 17, 16, 15, 14, 13, 12, 11, 10, 9, 8, 6, 5, 4, 1] [50, 0] rfl rfl
     try dsimp only [RS.sub, SF.sub, CF.sub, csub, Anc.sub, List.map, stCells, xL, xM, Nat.reduceAdd, xD, xE, xT, xU, xC, xN, zCF, rInt] at hS
     generalize Act.tau a 32 = v32 at hS
     refine block_n (then_n ?_)
     refine region_q hS
       (cF rfl (o_add .t (.ci (by kernel_rfl))) r1 trivial
       (cF rfl (oM .t) r1 trivial
       Chain.nil))
       hB ?_
     clear hS; intro a w F hS
     obtain ⟨F, hS⟩ := hS.nm [33, 32, 31, 30, 29, 28, 27, 26, 25, 24, 23, 22, 21, 20, 19, 18, 17, 16, 15, 14, 13, 12, 11, 10, 9, 8, 6, 5, 4, 1] [50, 0] rfl rfl
     try dsimp only [rInt] at hS
     refine then_n ?_
     replace hS := hS.ent (i := 11) (s' := .pv (.int .i64 ((i + 1 : Nat) : Int))) rfl (.int (wrap_succ (by omega)))
     obtain ⟨F, hS⟩ := hS.nm [10, 9, 4, 1, 5, 6, 11] [0, 50] rfl rfl
     exact ⟨((i + 1), _, _, _), F, ⟨by omega, (by rw [drop_nth hil] at hq; first | exact putIR_TT hA hBq hq | exact putIR_TF hA hBq hq | exact putIR_FT hA hBq hq | exact putIR_FF hA hBq hq)⟩, hS, by omega⟩
    have hBq : Go.Gm.nth l i = n := by simpa using hc2
    refine wp_skip (block_n (then_n ?_))
    refine region_q hS
      (cF rfl (o_add .t (.ci (by kernel_rfl))) r1 trivial
      (cF rfl (oM .t) r1 trivial
      Chain.nil))
      hB ?_
    clear hS; intro a w F hS
    obtain ⟨F, hS⟩ := hS.nm [33, 28, 27, 26, 25, 24, 23, 22, 21, 20, 19, 18, 17, 16, 15, 14, 13, 12, 11, 10, 9, 8, 6, 5, 4, 1] [50, 0] rfl rfl
    try dsimp only [rInt] at hS
    refine then_n ?_
    replace hS := hS.ent (i := 11) (s' := .pv (.int .i64 ((i + 1 : Nat) : Int))) rfl (.int (wrap_succ (by omega)))
    obtain ⟨F, hS⟩ := hS.nm [10, 9, 4, 1, 5, 6, 11] [0, 50] rfl rfl
    exact ⟨((i + 1), _, _, _), F, ⟨by omega, (by rw [drop_nth hil] at hq; first | exact putIR_TT hA hBq hq | exact putIR_TF hA hBq hq | exact putIR_FT hA hBq hq | exact putIR_FF hA hBq hq)⟩, hS, by omega⟩
   have hA : ¬ (d = false ∧ n ≤ Go.Gm.nth l i) := by rintro ⟨h1, h2⟩; subst h1; simp at hc1; omega
   refine wp_skip (then_n (wp_seq ?_))
   refine region_q hS
     (cF rfl (oM .t) r1 trivial
     (cF rfl (oM .t) r1 trivial
     (cF rfl (o_neq .t .t) r2 trivial
     Chain.nil)))
     hB ?_
   clear hS; intro a w F hS
   obtain ⟨F, hS⟩ := hS.nm [28, 27, 26, 21, 20, 19, 18, 17, 16, 15, 14, 13, 12, 11, 10, 9, 8, 6, 5, 4, 1] [50, 0] rfl rfl
   try dsimp only [rInt] at hS
   refine then_n ?_
   refine cond_b hS rfl (fun hc3 => ?_) (fun hc3 => ?_)
   ·skip
    have hBq : ¬ Go.Gm.nth l i = n := by simpa using hc3
    refine region_q hS
      (cF rfl (oM .t) r1 trivial
      (cF rfl (oM .t) r1 trivial
      (cF rfl (o_buildSliceE (sz := 1) (zs := [.int .i64 0]) (r := [(0, .tmp 30)]) (l := [_]) Tryd.underlying30 (by kernel_rfl) (by kernel_rfl) (by kernel_rfl) (by kernel_rfl) rfl rfl (.one rfl .t one_int (by kernel_rfl) .nil) rfl) r1 trivial
      (cF rfl (o_append (sz := 1) (bs := 8) 50 (.mk' Tryd.underlying30 (by kernel_rfl) (by kernel_rfl)) (by intro x; rfl) .is (.arr (l' := [Go.Gm.nth l i]) .t) (by simp only [List.length_append, List.length_cons, List.length_nil]; omega) (by decide)) ⟨rfl, rfl, trivial⟩ ⟨rfl, trivial⟩
      (cF rfl (oN .t) r1 trivial
      Chain.nil)))))
      hB ?_
    clear hS; intro a w F hS
    replace hS := hS.sub
    obtain ⟨F, hS⟩ := hS.nm [32, 31, 30, 29, 28, 27, 26, 21, 20, 19, 18, 17, 16, 15, 14, 13, 12, 11, 10, 9, 8, 6, 5, 4, 1] [50, 0] rfl rfl
    try dsimp only [RS.sub, SF.sub, CF.sub, csub, Anc.sub, List.map, stCells, xL, xM, Nat.reduceAdd, xD, xE, xT, xU, xC, xN, zCF, rInt] at hS
    generalize Act.tau a 32 = v32 at hS
    refine block_n (then_n ?_)
    refine region_q hS
      (cF rfl (o_add .t (.ci (by kernel_rfl))) r1 trivial
      (cF rfl (oM .t) r1 trivial
      Chain.nil))
      hB ?_
    clear hS; intro a w F hS
    obtain ⟨F, hS⟩ := hS.nm [33, 32, 31, 30, 29, 28, 27, 26, 21, 20, 19, 18, 17, 16, 15, 14, 13, 12, 11, 10, 9, 8, 6, 5, 4, 1] [50, 0] rfl rfl
    try dsimp only [rInt] at hS
    refine then_n ?_
    replace hS := hS.ent (i := 11) (s' := .pv (.int .i64 ((i + 1 : Nat) : Int))) rfl (.int (wrap_succ (by omega)))
    obtain ⟨F, hS⟩ := hS.nm [10, 9, 4, 1, 5, 6, 11] [0, 50] rfl rfl
    exact ⟨((i + 1), _, _, _), F, ⟨by omega, (by rw [drop_nth hil] at hq; first | exact putIR_TT hA hBq hq | exact putIR_TF hA hBq hq | exact putIR_FT hA hBq hq | exact putIR_FF hA hBq hq)⟩, hS, by omega⟩
   have hBq : Go.Gm.nth l i = n := by simpa using hc3
   refine wp_skip (block_n (then_n ?_))
   refine region_q hS
     (cF rfl (o_add .t (.ci (by kernel_rfl))) r1 trivial
     (cF rfl (oM .t) r1 trivial
     Chain.nil))
     hB ?_
   clear hS; intro a w F hS
   obtain ⟨F, hS⟩ := hS.nm [33, 28, 27, 26, 21, 20, 19, 18, 17, 16, 15, 14, 13, 12, 11, 10, 9, 8, 6, 5, 4, 1] [50, 0] rfl rfl
   try dsimp only [rInt] at hS
   refine then_n ?_
   replace hS := hS.ent (i := 11) (s' := .pv (.int .i64 ((i + 1 : Nat) : Int))) rfl (.int (wrap_succ (by omega)))
   obtain ⟨F, hS⟩ := hS.nm [10, 9, 4, 1, 5, 6, 11] [0, 50] rfl rfl
   exact ⟨((i + 1), _, _, _), F, ⟨by omega, (by rw [drop_nth hil] at hq; first | exact putIR_TT hA hBq hq | exact putIR_TF hA hBq hq | exact putIR_FT hA hBq hq | exact putIR_FF hA hBq hq)⟩, hS, by omega⟩
  have hil : i = l.length := by simp at hc0; omega
  refine wp_exit (then_x (then_x (block_x (then_n (wp_seq (wp_seq ?_))))))
  refine region_q hS
    (cF rfl (oM .t) r1 trivial
    (cF rfl (o_not .t) r1 trivial
    Chain.nil))
    hB ?_
  clear hS; intro a w F hS
  obtain ⟨F, hS⟩ := hS.nm [35, 5, 4, 1] [50, 0] rfl rfl
  try dsimp only [rInt] at hS
  refine then_n ?_
  refine cond_b hS rfl (fun hc4 => ?_) (fun hc4 => ?_)
  ·skip
   have hfin : out ++ [n] = putI l n := by rw [hil, List.drop_length] at hq; cases d with | true => simp at hc4 | false => exact hq
   refine region_q hS
     (cF rfl (oM .t) r1 trivial
     (cF rfl (oM .t) r1 trivial
     (cF rfl (o_buildSliceE (sz := 1) (zs := [.int .i64 0]) (r := [(0, .tmp 37)]) (l := [_]) Tryd.underlying30 (by kernel_rfl) (by kernel_rfl) (by kernel_rfl) (by kernel_rfl) rfl rfl (.one rfl .t one_int (by kernel_rfl) .nil) rfl) r1 trivial
     (cF rfl (o_append (sz := 1) (bs := 8) 50 (.mk' Tryd.underlying30 (by kernel_rfl) (by kernel_rfl)) (by intro x; rfl) .is (.arr (l' := [n]) .t) (by simp only [List.length_append, List.length_cons, List.length_nil]; omega) (by decide)) ⟨rfl, rfl, trivial⟩ ⟨rfl, trivial⟩
     (cF rfl (oN .t) r1 trivial
     Chain.nil)))))
     hB ?_
   clear hS; intro a w F hS
   replace hS := hS.sub
   obtain ⟨F, hS⟩ := hS.nm [5, 4] [50, 0] rfl rfl
   try dsimp only [RS.sub, SF.sub, CF.sub, csub, Anc.sub, List.map, stCells, xL, xM, Nat.reduceAdd, xD, xE, xT, xU, xC, xN, zCF, rInt] at hS
   generalize Act.tau a 39 = v39 at hS
   refine then_n (wp_seq ?_)
   refine region_q hS
     (cF rfl (oM .t) r1 trivial
     (cF rfl (oN .t) r1 trivial
     Chain.nil))
     hB ?_
   clear hS; intro a w F hS
   obtain ⟨F, hS⟩ := hS.nm [4] [50, 0] rfl rfl
   try dsimp only [rInt] at hS
   refine then_n (wp_ret ?_)
   obtain ⟨F, hS⟩ := hS.give 50 4 rfl rfl
   refine ret_P hfr hS rfl (.tmp rfl .nil) (.one (.sl hfin))
  have hfin : out = putI l n := by rw [hil, List.drop_length] at hq; cases d with | false => simp at hc4 | true => simpa [putIR] using hq
  refine wp_skip (then_n (wp_seq ?_))
  refine region_q hS
    (cF rfl (oM .t) r1 trivial
    (cF rfl (oN .t) r1 trivial
    Chain.nil))
    hB ?_
  clear hS; intro a w F hS
  obtain ⟨F, hS⟩ := hS.nm [4] [50, 0] rfl rfl
  try dsimp only [rInt] at hS
  refine then_n (wp_ret ?_)
  obtain ⟨F, hS⟩ := hS.give 50 4 rfl rfl
  refine ret_P hfr hS rfl (.tmp rfl .nil) (.one (.sl hfin))

theorem refPut_c (l : List Int) (n : Int) (hl : l.length ≤ 1000000) : FnP Tryd.prog 66 [.sl rInt l, .int .i64 n] (.sl rInt (putI l n)) := by
  refine FnP.mk Tryd.func66 rfl Tryd.ntmps66 rfl ?_
  intro B a w F hB hfr hS
  refine wp_seq ?_
  refine region_q hS
    (cF rfl (oN (.c rfl)) trivial trivial
    Chain.nil)
    hB ?_
  clear hS; intro a w F hS
  obtain ⟨F, hS⟩ := hS.nm [4, 1, 0] [0] rfl rfl
  try dsimp only [rInt] at hS
  refine then_n (wp_seq ?_)
  refine region_q hS
    (cF rfl (oM .t) r1 trivial
    (cF rfl (oM .t) r1 trivial
    (cF rfl (oP (put10_c l n hl) Tryd.func82 (Args.two .t .t)) r2 trivial
    (cF rfl (oN .t) r1 trivial
    Chain.nil))))
    hB ?_
  clear hS; intro a w F hS
  obtain ⟨F, hS⟩ := hS.nm [4] [0] rfl rfl
  try dsimp only [rInt] at hS
  refine then_n (wp_ret ?_)
  refine ret_P hfr hS rfl (.tmp rfl .nil) (.one .refl)

theorem less22_c (d e : ArcD) : FnP Tryd.prog 74 [.agg (rArc d), .agg (rArc e)] (.bool (cmpA d e)) := by
  refine FnP.mk Tryd.func74 rfl Tryd.ntmps74 rfl ?_
  intro B a w F hB hfr hS
  refine wp_seq ?_
  refine region_q hS
    (cF rfl (oX 101 (.conv .t .agg)) r1 trivial
    (cF rfl (oX 102 (.conv .t .agg)) r1 trivial
    (cF rfl (oN .cb) trivial trivial
    Chain.nil)))
    hB ?_
  clear hS; intro a w F hS
  replace hS := hS.sub
  obtain ⟨F, hS⟩ := hS.nm [4, 3, 2] [102, 101, 0] rfl rfl
  try dsimp only [RS.sub, SF.sub, CF.sub, csub, Anc.sub, List.map, zCF, rArc] at hS
  generalize Act.tau a 2 = v2 at hS
  generalize Act.tau a 3 = v3 at hS
  refine then_n (wp_seq (wp_seq ?_))
  refine region_q hS
    (cF rfl (oF 0 101 .is) r1 r1
    (cF rfl (oL false 1 101 .adr) r1 r1
    (cF rfl (oF 0 102 .is) r1 r1
    (cF rfl (oL false 1 102 .adr) r1 r1
    (cF rfl (o_neq .t .t) r2 trivial
    Chain.nil)))))
    hB ?_
  clear hS; intro a w F hS
  obtain ⟨F, hS⟩ := hS.nm [9, 4, 3, 2] [102, 101, 0] rfl rfl
  try dsimp only [List.map, xD, xE, xT, xU, ldSF, rArc] at hS
  refine then_n ?_
  refine cond_b hS rfl (fun hc0 => ?_) (fun hc0 => ?_)
  ·skip
   refine wp_seq ?_
   refine region_q hS
     (cF rfl (oF 0 101 .is) r1 r1
     (cF rfl (oL false 1 101 .adr) r1 r1
     (cF rfl (oF 0 102 .is) r1 r1
     (cF rfl (oL false 1 102 .adr) r1 r1
     (cF rfl (o_lss .t .t) r2 trivial
     (cF rfl (oN .t) r1 trivial
     Chain.nil))))))
     hB ?_
   clear hS; intro a w F hS
   obtain ⟨F, hS⟩ := hS.nm [4, 3, 2] [102, 101, 0] rfl rfl
   try dsimp only [List.map, xD, xE, xT, xU, ldSF, rArc] at hS
   refine then_n (wp_ret (then_r ?_))
   refine ret_P hfr hS rfl (.tmp rfl .nil) (.one (.bool (by first | (rw [Bool.eq_iff_iff, cmpA_iff]; simp at *; omega) | (simp at *; rw [Bool.eq_iff_iff, cmpA_iff]; simp; omega))))
  refine wp_skip (then_n (wp_seq (wp_seq ?_)))
  refine region_q hS
    (cF rfl (oF 2 101 .is) r1 r1
    (cF rfl (oL false 1 101 .adr) r1 r1
    (cF rfl (oF 2 102 .is) r1 r1
    (cF rfl (oL false 1 102 .adr) r1 r1
    (cF rfl (o_neq .t .t) r2 trivial
    Chain.nil)))))
    hB ?_
  clear hS; intro a w F hS
  obtain ⟨F, hS⟩ := hS.nm [19, 4, 3, 2] [102, 101, 0] rfl rfl
  try dsimp only [List.map, xD, xE, xT, xU, ldSF, rArc] at hS
  refine then_n ?_
  refine cond_b hS rfl (fun hc1 => ?_) (fun hc1 => ?_)
  ·skip
   refine wp_seq ?_
   refine region_q hS
     (cF rfl (oF 2 101 .is) r1 r1
     (cF rfl (oL false 1 101 .adr) r1 r1
     (cF rfl (oF 2 102 .is) r1 r1
     (cF rfl (oL false 1 102 .adr) r1 r1
     (cF rfl (o_lss .t .t) r2 trivial
     (cF rfl (oN .t) r1 trivial
     Chain.nil))))))
     hB ?_
   clear hS; intro a w F hS
   obtain ⟨F, hS⟩ := hS.nm [4, 3, 2] [102, 101, 0] rfl rfl
   try dsimp only [List.map, xD, xE, xT, xU, ldSF, rArc] at hS
   refine then_n (wp_ret (then_r ?_))
   refine ret_P hfr hS rfl (.tmp rfl .nil) (.one (.bool (by first | (rw [Bool.eq_iff_iff, cmpA_iff]; simp at *; omega) | (simp at *; rw [Bool.eq_iff_iff, cmpA_iff]; simp; omega))))
  refine wp_skip (then_n (wp_seq (wp_seq ?_)))
  refine region_q hS
    (cF rfl (oF 3 101 .is) r1 r1
    (cF rfl (oL false 1 101 .adr) r1 r1
    (cF rfl (oF 3 102 .is) r1 r1
    (cF rfl (oL false 1 102 .adr) r1 r1
    (cF rfl (o_neq .t .t) r2 trivial
    Chain.nil)))))
    hB ?_
  clear hS; intro a w F hS
  obtain ⟨F, hS⟩ := hS.nm [29, 4, 3, 2] [102, 101, 0] rfl rfl
  try dsimp only [List.map, xD, xE, xT, xU, ldSF, rArc] at hS
  refine then_n ?_
  refine cond_b hS rfl (fun hc2 => ?_) (fun hc2 => ?_)
  ·skip
   refine wp_seq ?_
   refine region_q hS
     (cF rfl (oF 3 101 .is) r1 r1
     (cF rfl (oL false 1 101 .adr) r1 r1
     (cF rfl (oF 3 102 .is) r1 r1
     (cF rfl (oL false 1 102 .adr) r1 r1
     (cF rfl (o_lss .t .t) r2 trivial
     (cF rfl (oN .t) r1 trivial
     Chain.nil))))))
     hB ?_
   clear hS; intro a w F hS
   obtain ⟨F, hS⟩ := hS.nm [4, 3, 2] [102, 101, 0] rfl rfl
   try dsimp only [List.map, xD, xE, xT, xU, ldSF, rArc] at hS
   refine then_n (wp_ret (then_r ?_))
   refine ret_P hfr hS rfl (.tmp rfl .nil) (.one (.bool (by first | (rw [Bool.eq_iff_iff, cmpA_iff]; simp at *; omega) | (simp at *; rw [Bool.eq_iff_iff, cmpA_iff]; simp; omega))))
  refine wp_skip (then_n (wp_seq ?_))
  refine region_q hS
    (cF rfl (oF 1 101 .is) r1 r1
    (cF rfl (oL false 1 101 .adr) r1 r1
    (cF rfl (oF 1 102 .is) r1 r1
    (cF rfl (oL false 1 102 .adr) r1 r1
    (cF rfl (o_lss .t .t) r2 trivial
    (cF rfl (oN .t) r1 trivial
    Chain.nil))))))
    hB ?_
  clear hS; intro a w F hS
  obtain ⟨F, hS⟩ := hS.nm [4] [0] rfl rfl
  try dsimp only [List.map, xD, xE, xT, xU, ldSF, rArc] at hS
  refine then_n (wp_ret ?_)
  refine ret_P hfr hS rfl (.tmp rfl .nil) (.one (.bool (by first | (rw [Bool.eq_iff_iff, cmpA_iff]; simp at *; omega) | (simp at *; rw [Bool.eq_iff_iff, cmpA_iff]; simp; omega))))

theorem put22_c (l : List ArcD) (e : ArcD) (hl : l.length ≤ 1000000) : FnP Tryd.prog 60 [.sl rArc l, .agg (rArc e)] (.sl rArc (putG cmpA l e)) := by
  refine FnP.mk Tryd.func60 rfl Tryd.ntmps60 rfl ?_
  intro B a w F hB hfr hS
  have hll := Sat.lenSl hS (i := 0) rfl
  refine wp_seq ?_
  refine region_q hS
    (cF rfl (oX 101 (.conv .t .agg)) r1 trivial
    (cF rfl (oN (.c rfl)) trivial trivial
    Chain.nil))
    hB ?_
  clear hS; intro a w F hS
  replace hS := hS.sub
  obtain ⟨F, hS⟩ := hS.nm [4, 3, 0] [101, 0] rfl rfl
  try dsimp only [RS.sub, SF.sub, CF.sub, csub, Anc.sub, List.map, zCF, rArc] at hS
  generalize Act.tau a 3 = v3 at hS
  refine then_n (wp_seq ?_)
  refine region_q hS
    (cF rfl (oN (.c rfl)) trivial trivial
    Chain.nil)
    hB ?_
  clear hS; intro a w F hS
  obtain ⟨F, hS⟩ := hS.nm [5, 4, 3, 0] [101, 0] rfl rfl
  try dsimp only [rArc] at hS
  refine then_n (wp_seq ?_)
  refine region_q hS
    (cF rfl (oN .cb) trivial trivial
    Chain.nil)
    hB ?_
  clear hS; intro a w F hS
  obtain ⟨F, hS⟩ := hS.nm [6, 5, 4, 3, 0] [101, 0] rfl rfl
  try dsimp only [rArc] at hS
  refine then_n (wp_seq (wp_seq ?_))
  refine region_q hS
    (cF rfl (oM .t) r1 trivial
    (cF rfl (o_len_sl Tryd.underlying60 .t) r1 trivial
    (cF rfl (oM (.ci (by kernel_rfl))) trivial trivial
    Chain.nil)))
    hB ?_
  clear hS; intro a w F hS
  obtain ⟨F, hS⟩ := hS.nm [11, 10, 9, 6, 5, 4, 3] [101, 0] rfl rfl
  try dsimp only [rArc] at hS
  refine then_n (wp_block ?_)
  replace hS := hS.fresh 50 rfl
  replace hS := hS.turn 50 rfl (nilRow (T := 94) (sz := 4) (R := rArc))
  refine loop_keep (σ := (Nat) × (Bool) × (Value) × (List ArcD)) [3, 4, 9, 10] [0, 101] (fun s => [(11, .pv (.int .i64 (s.1 : Int))), (6, .pv (.bool s.2.1)), (5, .pv (.is s.2.2.1))]) (fun s => [(50, .ob (.val s.2.2.1) (rowH 94 4 rArc s.2.2.2))]) (fun s => s.1 ≤ l.length ∧ (s.2.2.2 ++ putRG cmpA e (l.drop s.1) s.2.1 = putG cmpA l e)) (fun s => l.length - s.1) ((0), _, (.slice none 0 0), ([])) hS ⟨rfl, rfl, rfl, rfl, rfl, rfl, rfl, trivial⟩ ⟨rfl, rfl, rfl, trivial⟩ ⟨Nat.zero_le _, rfl⟩ ?_
  clear hS; intro s a w F hC hS
  obtain ⟨i, d, v, out⟩ := s
  try dsimp only at hC
  obtain ⟨F, hS⟩ := hS.nm [11, 10, 9, 6, 5, 4, 3] [101, 50, 0] rfl rfl
  try dsimp only at hS
  obtain ⟨hi, hq⟩ := hC
  have hol := congrArg List.length hq
  rw [List.length_append] at hol
  have htl : (putRG cmpA e l false).length ≤ l.length + 1 := by simpa using putRG_len cmpA e l false
  change _ = (putRG cmpA e l false).length at hol
  refine wp_seq ?_
  refine region_q hS
    (cF rfl (o_lss .t .t) r2 trivial
    Chain.nil)
    hB ?_
  clear hS; intro a w F hS
  obtain ⟨F, hS⟩ := hS.nm [12, 11, 10, 9, 6, 5, 4, 3] [101, 50, 0] rfl rfl
  try dsimp only [rArc] at hS
  refine then_n (wp_seq ?_)
  refine cond_b hS rfl (fun hc0 => ?_) (fun hc0 => ?_)
  ·skip
   have hil : i < l.length := by simp at hc0; omega
   refine wp_skip (then_n (wp_seq (wp_block (wp_seq ?_))))
   refine region_q hS
     (cF rfl (o_indexAddr_sl (sz := 4) (.mk Tryd.underlying60 (by kernel_rfl)) (by intro x; rfl) .t .t (by omega) (by omega)) r2 trivial
     (cF rfl (oR true 4 .t) r1 trivial
     (cF rfl (oH [.int .i64 0, .int .i64 0, .int .i64 0, .int .i64 0] 102) trivial trivial
     (cF rfl (oA 4 102 .same .t) r2 r1
     Chain.nil))))
     hB ?_
   clear hS; intro a w F hS
   replace hS := hS.sub
   obtain ⟨F, hS⟩ := hS.nm [14, 13, 12, 11, 10, 9, 8, 6, 5, 4, 3] [102, 101, 50, 0] rfl rfl
   try dsimp only [RS.sub, SF.sub, CF.sub, csub, Anc.sub, List.map, stCells, xL, xM, Nat.reduceAdd, xD, xE, xT, xU, xC, xN, zCF, ldSF, rArc] at hS
   generalize Act.tau a 8 = v8 at hS
   try simp only [Int.toNat_natCast] at hS
   refine then_n (wp_seq (wp_seq ?_))
   refine region_q hS
     (cF rfl (oM .t) r1 trivial
     (cF rfl (o_not .t) r1 trivial
     (cF rfl (oM .t) r1 trivial
     (Chain.cons (Cert.cond rfl rfl (fun h => o_load (ag := true) (sz := 4) 102 .is (by kernel_rfl) (by kernel_rfl) (by kernel_rfl) (by rfl))) r2 r1
     (Chain.cons (Cert.cond rfl rfl (fun h => o_load (ag := true) (sz := 4) 101 .is (by kernel_rfl) (by kernel_rfl) (by kernel_rfl) (by rfl))) r2 r1
     (Chain.cons (Cert.cond rfl rfl (fun h => o_callP (less22_c (Go.Gm.nth l i) e) Tryd.func74 rfl (by kernel_rfl) (Args.two (.pagg (.w h)) (.pagg (.w h))))) r3 trivial
     (Chain.cons (Cert.cond rfl rfl (fun h => o_not (.w h))) r2 trivial
     (cF rfl (o_and2 .t .t) r2 trivial
     Chain.nil))))))))
     hB ?_
   clear hS; intro a w F hS
   obtain ⟨F, hS⟩ := hS.nm [22, 21, 20, 19, 18, 17, 16, 15, 14, 13, 12, 11, 10, 9, 8, 6, 5, 4, 3] [102, 101, 50, 0] rfl rfl
   try dsimp only [List.map, xD, xE, xT, xU, ldSF, rArc] at hS
   refine then_n ?_
   refine cond_b hS rfl (fun hc1 => ?_) (fun hc1 => ?_)
   ·skip
    have hA : d = false ∧ cmpA (Go.Gm.nth l i) e = false := by simpa using hc1
    refine wp_seq ?_
    refine region_q hS
      (cF rfl (oM .t) r1 trivial
      (cF rfl (oL true 4 101 .is) r1 r1
      (cF rfl (o_buildSliceE (sz := 4) (zs := [.int .i64 0, .int .i64 0, .int .i64 0, .int .i64 0]) (r := [(0, .tmp 24)]) (l := [_, _, _, _]) Tryd.underlying60 (by kernel_rfl) (by kernel_rfl) (by kernel_rfl) (by kernel_rfl) rfl rfl (.agg rfl .t (by kernel_rfl) (by kernel_rfl) .nil) rfl) r1 trivial
      (cF rfl (o_append (sz := 4) (bs := 32) 50 (.mk' Tryd.underlying60 (by kernel_rfl) (by kernel_rfl)) (by intro x; rfl) .is (.arr (l' := [_]) .t) (by simp only [List.length_append, List.length_cons, List.length_nil]; omega) (by decide)) ⟨rfl, rfl, trivial⟩ ⟨rfl, trivial⟩
      (cF rfl (oN .t) r1 trivial
      Chain.nil)))))
      hB ?_
    clear hS; intro a w F hS
    replace hS := hS.sub
    obtain ⟨F, hS⟩ := hS.nm [26, 25, 24, 23, 22, 21, 20, 19, 18, 17, 16, 15, 14, 13, 12, 11, 10, 9, 8, 6, 5, 4, 3] [102, 101, 50, 0] rfl rfl
    try dsimp only [RS.sub, SF.sub, CF.sub, csub, Anc.sub, List.map, stCells, xL, xM, Nat.reduceAdd, xD, xE, xT, xU, xC, xN, zCF, ldSF, rArc] at hS
    generalize Act.tau a 26 = v26 at hS
    refine then_n ?_
    refine region_q hS
      (cF rfl (oN .cb) trivial trivial
      Chain.nil)
      hB ?_
    clear hS; intro a w F hS
    obtain ⟨F, hS⟩ := hS.nm [26, 25, 24, 23, 22, 21, 20, 19, 18, 17, 16, 15, 14, 13, 12, 11, 10, 9, 8, 6, 5, 4, 3] [102, 101, 50, 0] rfl rfl
    try dsimp only [rArc] at hS
    refine then_n (wp_seq ?_)
    refine region_q hS
      (cF rfl (oL true 4 102 .is) r1 r1
      (cF rfl (oL true 4 101 .is) r1 r1
      (cF rfl (o_neqS (ks := [true, true, true, true]) (by kernel_rfl) .t .t (.int (.int (.int (.int .nil))))) r2 trivial
      Chain.nil)))
      hB ?_
    clear hS; intro a w F hS
    obtain ⟨F, hS⟩ := hS.nm [29, 28, 27, 26, 25, 24, 23, 22, 21, 20, 19, 18, 17, 16, 15, 14, 13, 12, 11, 10, 9, 8, 6, 5, 4, 3] [102, 101, 50, 0] rfl rfl
    try dsimp only [List.map, xD, xE, xT, xU, ldSF, rArc] at hS
    refine then_n ?_
    refine cond_b hS rfl (fun hc2 => ?_) (fun hc2 => ?_)
    ·skip
     have hBq : Go.Gm.nth l i ≠ e := by simp only [eqAD] at hc2; simpa using hc2
     refine region_q hS
       (cF rfl (oM .t) r1 trivial
       (cF rfl (oL true 4 102 .is) r1 r1
       (cF rfl (o_buildSliceE (sz := 4) (zs := [.int .i64 0, .int .i64 0, .int .i64 0, .int .i64 0]) (r := [(0, .tmp 31)]) (l := [_, _, _, _]) Tryd.underlying60 (by kernel_rfl) (by kernel_rfl) (by kernel_rfl) (by kernel_rfl) rfl rfl (.agg rfl .t (by kernel_rfl) (by kernel_rfl) .nil) rfl) r1 trivial
       (cF rfl (o_append (sz := 4) (bs := 32) 50 (.mk' Tryd.underlying60 (by kernel_rfl) (by kernel_rfl)) (by intro x; rfl) .is (.arr (l' := [_]) .t) (by simp only [List.length_append, List.length_cons, List.length_nil]; omega) (by decide)) ⟨rfl, rfl, trivial⟩ ⟨rfl, trivial⟩
       (cF rfl (oN .t) r1 trivial
       Chain.nil)))))
       hB ?_
     clear hS; intro a w F hS
     replace hS := hS.sub
     obtain ⟨F, hS⟩ := hS.nm [33, 32, 31, 30, 29, 28, 27, 26, 25, 24, 23, 22, 21, 20, 19, 18, 17, 16, 15, 14, 13, 12, 11, 10, 9, 8, 6, 5, 4, 3] [102, 101, 50, 0] rfl rfl
     try dsimp only [RS.sub, SF.sub, CF.sub, csub, Anc.sub, List.map, stCells, xL, xM, Nat.reduceAdd, xD, xE, xT, xU, xC, xN, zCF, ldSF, rArc] at hS
     generalize Act.tau a 33 = v33 at hS
     refine block_n (then_n ?_)
     refine region_q hS
       (cF rfl (o_add .t (.ci (by kernel_rfl))) r1 trivial
       (cF rfl (oM .t) r1 trivial
       Chain.nil))
       hB ?_
     clear hS; intro a w F hS
     obtain ⟨F, hS⟩ := hS.nm [34, 33, 32, 31, 30, 29, 28, 27, 26, 25, 24, 23, 22, 21, 20, 19, 18, 17, 16, 15, 14, 13, 12, 11, 10, 9, 8, 6, 5, 4, 3] [102, 101, 50, 0] rfl rfl
     try dsimp only [rArc] at hS
     refine then_n ?_
     replace hS := hS.ent (i := 11) (s' := .pv (.int .i64 ((i + 1 : Nat) : Int))) rfl (.int (wrap_succ (by omega)))
     obtain ⟨F, hS⟩ := hS.nm [10, 9, 4, 3, 5, 6, 11] [101, 0, 50] rfl rfl
     exact ⟨((i + 1), _, _, _), F, ⟨by omega, (by rw [drop_nth hil] at hq; first | exact pe_TT hq hA hBq | exact pe_TF hq hA hBq | exact pe_FT hq hA hBq | exact pe_FF hq hA hBq)⟩, hS, by omega⟩
    have hBq : ¬ Go.Gm.nth l i ≠ e := by simp only [eqAD] at hc2; simpa using hc2
    refine wp_skip (block_n (then_n ?_))
    refine region_q hS
      (cF rfl (o_add .t (.ci (by kernel_rfl))) r1 trivial
      (cF rfl (oM .t) r1 trivial
      Chain.nil))
      hB ?_
    clear hS; intro a w F hS
    obtain ⟨F, hS⟩ := hS.nm [34, 29, 28, 27, 26, 25, 24, 23, 22, 21, 20, 19, 18, 17, 16, 15, 14, 13, 12, 11, 10, 9, 8, 6, 5, 4, 3] [102, 101, 50, 0] rfl rfl
    try dsimp only [rArc] at hS
    refine then_n ?_
    replace hS := hS.ent (i := 11) (s' := .pv (.int .i64 ((i + 1 : Nat) : Int))) rfl (.int (wrap_succ (by omega)))
    obtain ⟨F, hS⟩ := hS.nm [10, 9, 4, 3, 5, 6, 11] [101, 0, 50] rfl rfl
    exact ⟨((i + 1), _, _, _), F, ⟨by omega, (by rw [drop_nth hil] at hq; first | exact pe_TT hq hA hBq | exact pe_TF hq hA hBq | exact pe_FT hq hA hBq | exact pe_FF hq hA hBq)⟩, hS, by omega⟩
   have hA : ¬ (d = false ∧ cmpA (Go.Gm.nth l i) e = false) := by rintro ⟨h1, h2⟩; subst h1; rw [h2] at hc1; simp at hc1
   refine wp_skip (then_n (wp_seq ?_))
   refine region_q hS
     (cF rfl (oL true 4 102 .is) r1 r1
     (cF rfl (oL true 4 101 .is) r1 r1
     (cF rfl (o_neqS (ks := [true, true, true, true]) (by kernel_rfl) .t .t (.int (.int (.int (.int .nil))))) r2 trivial
     Chain.nil)))
     hB ?_
   clear hS; intro a w F hS
   obtain ⟨F, hS⟩ := hS.nm [29, 28, 27, 22, 21, 20, 19, 18, 17, 16, 15, 14, 13, 12, 11, 10, 9, 8, 6, 5, 4, 3] [102, 101, 50, 0] rfl rfl
   try dsimp only [List.map, xD, xE, xT, xU, ldSF, rArc] at hS
   refine then_n ?_
   refine cond_b hS rfl (fun hc3 => ?_) (fun hc3 => ?_)
   ·skip
    have hBq : Go.Gm.nth l i ≠ e := by simp only [eqAD] at hc3; simpa using hc3
    refine region_q hS
      (cF rfl (oM .t) r1 trivial
      (cF rfl (oL true 4 102 .is) r1 r1
      (cF rfl (o_buildSliceE (sz := 4) (zs := [.int .i64 0, .int .i64 0, .int .i64 0, .int .i64 0]) (r := [(0, .tmp 31)]) (l := [_, _, _, _]) Tryd.underlying60 (by kernel_rfl) (by kernel_rfl) (by kernel_rfl) (by kernel_rfl) rfl rfl (.agg rfl .t (by kernel_rfl) (by kernel_rfl) .nil) rfl) r1 trivial
      (cF rfl (o_append (sz := 4) (bs := 32) 50 (.mk' Tryd.underlying60 (by kernel_rfl) (by kernel_rfl)) (by intro x; rfl) .is (.arr (l' := [_]) .t) (by simp only [List.length_append, List.length_cons, List.length_nil]; omega) (by decide)) ⟨rfl, rfl, trivial⟩ ⟨rfl, trivial⟩
      (cF rfl (oN .t) r1 trivial
      Chain.nil)))))
      hB ?_
    clear hS; intro a w F hS
    replace hS := hS.sub
    obtain ⟨F, hS⟩ := hS.nm [33, 32, 31, 30, 29, 28, 27, 22, 21, 20, 19, 18, 17, 16, 15, 14, 13, 12, 11, 10, 9, 8, 6, 5, 4, 3] [102, 101, 50, 0] rfl rfl
    try dsimp only [RS.sub, SF.sub, CF.sub, csub, Anc.sub, List.map, stCells, xL, xM, Nat.reduceAdd, xD, xE, xT, xU, xC, xN, zCF, ldSF, rArc] at hS
    generalize Act.tau a 33 = v33 at hS
    refine block_n (then_n ?_)
    refine region_q hS
      (cF rfl (o_add .t (.ci (by kernel_rfl))) r1 trivial
      (cF rfl (oM .t) r1 trivial
      Chain.nil))
      hB ?_
    clear hS; intro a w F hS
    obtain ⟨F, hS⟩ := hS.nm [34, 33, 32, 31, 30, 29, 28, 27, 22, 21, 20, 19, 18, 17, 16, 15, 14, 13, 12, 11, 10, 9, 8, 6, 5, 4, 3] [102, 101, 50, 0] rfl rfl
    try dsimp only [rArc] at hS
    refine then_n ?_
    replace hS := hS.ent (i := 11) (s' := .pv (.int .i64 ((i + 1 : Nat) : Int))) rfl (.int (wrap_succ (by omega)))
    obtain ⟨F, hS⟩ := hS.nm [10, 9, 4, 3, 5, 6, 11] [101, 0, 50] rfl rfl
    exact ⟨((i + 1), _, _, _), F, ⟨by omega, (by rw [drop_nth hil] at hq; first | exact pe_TT hq hA hBq | exact pe_TF hq hA hBq | exact pe_FT hq hA hBq | exact pe_FF hq hA hBq)⟩, hS, by omega⟩
   have hBq : ¬ Go.Gm.nth l i ≠ e := by simp only [eqAD] at hc3; simpa using hc3
   refine wp_skip (block_n (then_n ?_))
   refine region_q hS
     (cF rfl (o_add .t (.ci (by kernel_rfl))) r1 trivial
     (cF rfl (oM .t) r1 trivial
     Chain.nil))
     hB ?_
   clear hS; intro a w F hS
   obtain ⟨F, hS⟩ := hS.nm [34, 29, 28, 27, 22, 21, 20, 19, 18, 17, 16, 15, 14, 13, 12, 11, 10, 9, 8, 6, 5, 4, 3] [102, 101, 50, 0] rfl rfl
   try dsimp only [rArc] at hS
   refine then_n ?_
   replace hS := hS.ent (i := 11) (s' := .pv (.int .i64 ((i + 1 : Nat) : Int))) rfl (.int (wrap_succ (by omega)))
   obtain ⟨F, hS⟩ := hS.nm [10, 9, 4, 3, 5, 6, 11] [101, 0, 50] rfl rfl
   exact ⟨((i + 1), _, _, _), F, ⟨by omega, (by rw [drop_nth hil] at hq; first | exact pe_TT hq hA hBq | exact pe_TF hq hA hBq | exact pe_FT hq hA hBq | exact pe_FF hq hA hBq)⟩, hS, by omega⟩
  have hil : i = l.length := by simp at hc0; omega
  refine wp_exit (then_x (then_x (block_x (then_n (wp_seq (wp_seq ?_))))))
  refine region_q hS
    (cF rfl (oM .t) r1 trivial
    (cF rfl (o_not .t) r1 trivial
    Chain.nil))
    hB ?_
  clear hS; intro a w F hS
  obtain ⟨F, hS⟩ := hS.nm [36, 5, 4, 3] [101, 50, 0] rfl rfl
  try dsimp only [rArc] at hS
  refine then_n ?_
  refine cond_b hS rfl (fun hc4 => ?_) (fun hc4 => ?_)
  ·skip
   have hfin : out ++ [e] = putG cmpA l e := by rw [hil, List.drop_length] at hq; cases d with | true => simp at hc4 | false => exact hq
   refine region_q hS
     (cF rfl (oM .t) r1 trivial
     (cF rfl (oL true 4 101 .is) r1 r1
     (cF rfl (o_buildSliceE (sz := 4) (zs := [.int .i64 0, .int .i64 0, .int .i64 0, .int .i64 0]) (r := [(0, .tmp 38)]) (l := [_, _, _, _]) Tryd.underlying60 (by kernel_rfl) (by kernel_rfl) (by kernel_rfl) (by kernel_rfl) rfl rfl (.agg rfl .t (by kernel_rfl) (by kernel_rfl) .nil) rfl) r1 trivial
     (cF rfl (o_append (sz := 4) (bs := 32) 50 (.mk' Tryd.underlying60 (by kernel_rfl) (by kernel_rfl)) (by intro x; rfl) .is (.arr (l' := [_]) .t) (by simp only [List.length_append, List.length_cons, List.length_nil]; omega) (by decide)) ⟨rfl, rfl, trivial⟩ ⟨rfl, trivial⟩
     (cF rfl (oN .t) r1 trivial
     Chain.nil)))))
     hB ?_
   clear hS; intro a w F hS
   replace hS := hS.sub
   obtain ⟨F, hS⟩ := hS.nm [5, 4] [50, 0] rfl rfl
   try dsimp only [RS.sub, SF.sub, CF.sub, csub, Anc.sub, List.map, stCells, xL, xM, Nat.reduceAdd, xD, xE, xT, xU, xC, xN, zCF, ldSF, rArc] at hS
   generalize Act.tau a 40 = v40 at hS
   refine then_n (wp_seq ?_)
   refine region_q hS
     (cF rfl (oM .t) r1 trivial
     (cF rfl (oN .t) r1 trivial
     Chain.nil))
     hB ?_
   clear hS; intro a w F hS
   obtain ⟨F, hS⟩ := hS.nm [4] [50, 0] rfl rfl
   try dsimp only [rArc] at hS
   refine then_n (wp_ret ?_)
   obtain ⟨F, hS⟩ := hS.give 50 4 rfl rfl
   refine ret_P hfr hS rfl (.tmp rfl .nil) (.one (.sl hfin))
  have hfin : out = putG cmpA l e := by rw [hil, List.drop_length] at hq; cases d with | false => simp at hc4 | true => rw [← hq]; exact (List.append_nil _).symm
  refine wp_skip (then_n (wp_seq ?_))
  refine region_q hS
    (cF rfl (oM .t) r1 trivial
    (cF rfl (oN .t) r1 trivial
    Chain.nil))
    hB ?_
  clear hS; intro a w F hS
  obtain ⟨F, hS⟩ := hS.nm [4] [50, 0] rfl rfl
  try dsimp only [rArc] at hS
  refine then_n (wp_ret ?_)
  obtain ⟨F, hS⟩ := hS.give 50 4 rfl rfl
  refine ret_P hfr hS rfl (.tmp rfl .nil) (.one (.sl hfin))

theorem Ent.eqSl {α : Type} {R : α → List PV} {x y : List α} (h : x = y) : Ent (.pv (.sl R x)) (.pv (.sl R y)) := fun _ _ _ _ k => h ▸ k
theorem nextStep_len {u : Int} {o : List Int} {i : Nat} {a : ArcD} (h : o.length ≤ i) : ([a].foldl (nextStep u) o).length ≤ i + 1 := by
  rw [List.foldl_cons, List.foldl_nil]
  unfold nextStep
  split
  · have : (putI o a.dst).length ≤ o.length + 1 := putIR_len o false
    omega
  · omega

theorem next22_c (l : List ArcD) (u : Int) (hl : l.length ≤ 900000) : FnP Tryd.prog 65 [.sl rArc l, .int .i64 u, .bool false] (.sl rInt (nextA l u)) := by
  refine FnP.mk Tryd.func65 rfl Tryd.ntmps65 rfl ?_
  intro B a w F hB hfr hS
  have hll := Sat.lenSl hS (i := 0) rfl
  refine wp_seq ?_
  refine region_q hS
    (cF rfl (oN (.c rfl)) trivial trivial
    Chain.nil)
    hB ?_
  clear hS; intro a w F hS
  obtain ⟨F, hS⟩ := hS.nm [6, 2, 1, 0] [0] rfl rfl
  try dsimp only [rArc, rInt] at hS
  refine then_n (wp_seq ?_)
  refine region_q hS
    (cF rfl (oN (.c rfl)) trivial trivial
    Chain.nil)
    hB ?_
  clear hS; intro a w F hS
  obtain ⟨F, hS⟩ := hS.nm [7, 6, 2, 1, 0] [0] rfl rfl
  try dsimp only [rArc, rInt] at hS
  refine then_n (wp_seq (wp_seq ?_))
  refine region_q hS
    (cF rfl (oM .t) r1 trivial
    (cF rfl (o_len_sl Tryd.underlying60 .t) r1 trivial
    (cF rfl (oM (.ci (by kernel_rfl))) trivial trivial
    Chain.nil)))
    hB ?_
  clear hS; intro a w F hS
  obtain ⟨F, hS⟩ := hS.nm [12, 11, 10, 7, 6, 2, 1] [0] rfl rfl
  try dsimp only [rArc, rInt] at hS
  refine then_n (wp_block ?_)
  replace hS := hS.ent (i := 7) (s' := .pv (.sl rInt [])) rfl (.nilSl)
  refine loop_keep (σ := (Nat)) [1, 2, 6, 10, 11] [0] (fun s => [(12, .pv (.int .i64 (s : Int))), (7, .pv (.sl rInt ((l.take s).foldl (nextStep u) [])))]) (fun s => []) (fun s => s ≤ l.length ∧ (((l.take s).foldl (nextStep u) []).length ≤ s)) (fun s => l.length - s) (0) hS ⟨rfl, rfl, rfl, rfl, rfl, rfl, rfl, trivial⟩ ⟨rfl, trivial⟩ ⟨Nat.zero_le _, Nat.le_refl 0⟩ ?_
  clear hS; intro i a w F hC hS
  try dsimp only at hC
  obtain ⟨F, hS⟩ := hS.nm [12, 11, 10, 7, 6, 2, 1] [0] rfl rfl
  try dsimp only at hS
  obtain ⟨hi, hq⟩ := hC
  refine wp_seq ?_
  refine region_q hS
    (cF rfl (o_lss .t .t) r2 trivial
    Chain.nil)
    hB ?_
  clear hS; intro a w F hS
  obtain ⟨F, hS⟩ := hS.nm [13, 12, 11, 10, 7, 6, 2, 1] [0] rfl rfl
  try dsimp only [rArc, rInt] at hS
  refine then_n (wp_seq ?_)
  refine cond_b hS rfl (fun hc0 => ?_) (fun hc0 => ?_)
  ·skip
   have hil : i < l.length := by simp at hc0; omega
   refine wp_skip (then_n (wp_seq (wp_block (wp_seq ?_))))
   refine region_q hS
     (cF rfl (o_indexAddr_sl (sz := 4) (.mk Tryd.underlying60 (by kernel_rfl)) (by intro x; rfl) .t .t (by omega) (by omega)) r2 trivial
     (cF rfl (oR true 4 .t) r1 trivial
     (cF rfl (oH [.int .i64 0, .int .i64 0, .int .i64 0, .int .i64 0] 101) trivial trivial
     (cF rfl (oA 4 101 .same .t) r2 r1
     Chain.nil))))
     hB ?_
   clear hS; intro a w F hS
   replace hS := hS.sub
   obtain ⟨F, hS⟩ := hS.nm [15, 14, 13, 12, 11, 10, 9, 7, 6, 2, 1] [101, 0] rfl rfl
   try dsimp only [RS.sub, SF.sub, CF.sub, csub, Anc.sub, List.map, stCells, xL, xM, Nat.reduceAdd, xD, xE, xT, xU, xC, xN, zCF, ldSF, rArc, rInt] at hS
   generalize Act.tau a 9 = v9 at hS
   try simp only [Int.toNat_natCast] at hS
   refine then_n (wp_seq (wp_seq ?_))
   refine region_q hS
     (cF rfl (oM .t) r1 trivial
     (cF rfl (o_not .t) r1 trivial
     (cF rfl (oM .t) r1 trivial
     (Chain.cons (Cert.cond rfl rfl (fun h => o_fieldAddr (off := 0) 101 .is (by kernel_rfl) (by rfl))) r2 r1
     (Chain.cons (Cert.cond rfl rfl (fun h => o_load (ag := false) (sz := 1) 101 (.w h .adr) (by kernel_rfl) (by kernel_rfl) (by kernel_rfl) (by rfl))) r2 r1
     (Chain.cons (Cert.cond rfl rfl (fun h => o_move .t (by rfl))) r2 trivial
     (Chain.cons (Cert.cond rfl rfl (fun h => o_eql (.w h) (.w h))) r3 trivial
     (cF rfl (o_and2 .t .t) r2 trivial
     Chain.nil))))))))
     hB ?_
   clear hS; intro a w F hS
   obtain ⟨F, hS⟩ := hS.nm [23, 22, 21, 20, 19, 18, 17, 16, 15, 14, 13, 12, 11, 10, 9, 7, 6, 2, 1] [101, 0] rfl rfl
   try dsimp only [List.map, xD, xE, xT, xU, ldSF, rArc, rInt] at hS
   refine then_n ?_
   refine cond_b hS rfl (fun hc1 => ?_) (fun hc1 => ?_)
   ·skip
    have hBq : (Go.Gm.nth l i).src = u := by simpa using hc1
    refine region_q hS
      (cF rfl (oM .t) r1 trivial
      (cF rfl (oF 1 101 .is) r1 r1
      (cF rfl (oL false 1 101 .adr) r1 r1
      (cF rfl (oP (refPut_c _ (Go.Gm.nth l i).dst (by omega)) Tryd.func66 (Args.two .t .t)) r2 trivial
      (cF rfl (oN .t) r1 trivial
      Chain.nil)))))
      hB ?_
    clear hS; intro a w F hS
    obtain ⟨F, hS⟩ := hS.nm [27, 26, 25, 24, 23, 22, 21, 20, 19, 18, 17, 16, 15, 14, 13, 12, 11, 10, 9, 7, 6, 2, 1] [101, 0] rfl rfl
    try dsimp only [List.map, xD, xE, xT, xU, ldSF, rArc, rInt] at hS
    refine then_n (wp_seq ?_)
    refine region_q hS
      (cF rfl (oM .t) r1 trivial
      (cF rfl (oM .t) r1 trivial
      (Chain.cons (Cert.cond rfl rfl (fun h => (OpC.never (by simp at h)))) r1 trivial
      (Chain.cons (Cert.cond rfl rfl (fun h => (OpC.never (by simp at h)))) r1 trivial
      (Chain.cons (Cert.cond rfl rfl (fun h => (OpC.never (by simp at h)))) r1 trivial
      (Chain.cons (Cert.cond rfl rfl (fun h => (OpC.never (by simp at h)))) r1 trivial
      (cF rfl (o_and2 .t .t) r2 trivial
      Chain.nil)))))))
      hB ?_
    clear hS; intro a w F hS
    obtain ⟨F, hS⟩ := hS.nm [34, 33, 32, 31, 30, 29, 28, 27, 26, 25, 24, 23, 22, 21, 20, 19, 18, 17, 16, 15, 14, 13, 12, 11, 10, 9, 7, 6, 2, 1] [101, 0] rfl rfl
    try dsimp only [List.map, xD, xE, xT, xU, ldSF, rArc, rInt] at hS
    refine then_n ?_
    refine cond_b hS rfl (fun hc2 => ?_) (fun hc2 => ?_)
    ·skip
     simp at hc2
    refine wp_skip (block_n (then_n ?_))
    refine region_q hS
      (cF rfl (o_add .t (.ci (by kernel_rfl))) r1 trivial
      (cF rfl (oM .t) r1 trivial
      Chain.nil))
      hB ?_
    clear hS; intro a w F hS
    obtain ⟨F, hS⟩ := hS.nm [39, 34, 33, 32, 31, 30, 29, 28, 27, 26, 25, 24, 23, 22, 21, 20, 19, 18, 17, 16, 15, 14, 13, 12, 11, 10, 9, 7, 6, 2, 1] [101, 0] rfl rfl
    try dsimp only [rArc, rInt] at hS
    refine then_n ?_
    replace hS := hS.ent (i := 12) (s' := .pv (.int .i64 ((i + 1 : Nat) : Int))) rfl (.int (wrap_succ (by omega)))
    replace hS := hS.ent (i := 7) (s' := .pv (.sl rInt ((l.take (i + 1)).foldl (nextStep u) []))) rfl (Ent.eqSl (by rw [take_nth hil, List.foldl_append, List.foldl_cons, List.foldl_nil]; unfold nextStep; simp [hBq]))
    obtain ⟨F, hS⟩ := hS.nm [11, 10, 6, 2, 1, 7, 12] [0] rfl rfl
    exact ⟨(i + 1), F, ⟨by omega, (by rw [take_nth hil, List.foldl_append]; exact nextStep_len hq)⟩, hS, by omega⟩
   have hBq : ¬ (Go.Gm.nth l i).src = u := by simpa using hc1
   refine wp_skip (then_n (wp_seq ?_))
   refine region_q hS
     (cF rfl (oM .t) r1 trivial
     (cF rfl (oM .t) r1 trivial
     (Chain.cons (Cert.cond rfl rfl (fun h => (OpC.never (by simp at h)))) r1 trivial
     (Chain.cons (Cert.cond rfl rfl (fun h => (OpC.never (by simp at h)))) r1 trivial
     (Chain.cons (Cert.cond rfl rfl (fun h => (OpC.never (by simp at h)))) r1 trivial
     (Chain.cons (Cert.cond rfl rfl (fun h => (OpC.never (by simp at h)))) r1 trivial
     (cF rfl (o_and2 .t .t) r2 trivial
     Chain.nil)))))))
     hB ?_
   clear hS; intro a w F hS
   obtain ⟨F, hS⟩ := hS.nm [34, 33, 32, 31, 30, 29, 28, 23, 22, 21, 20, 19, 18, 17, 16, 15, 14, 13, 12, 11, 10, 9, 7, 6, 2, 1] [101, 0] rfl rfl
   try dsimp only [List.map, xD, xE, xT, xU, ldSF, rArc, rInt] at hS
   refine then_n ?_
   refine cond_b hS rfl (fun hc3 => ?_) (fun hc3 => ?_)
   ·skip
    simp at hc3
   refine wp_skip (block_n (then_n ?_))
   refine region_q hS
     (cF rfl (o_add .t (.ci (by kernel_rfl))) r1 trivial
     (cF rfl (oM .t) r1 trivial
     Chain.nil))
     hB ?_
   clear hS; intro a w F hS
   obtain ⟨F, hS⟩ := hS.nm [39, 34, 33, 32, 31, 30, 29, 28, 23, 22, 21, 20, 19, 18, 17, 16, 15, 14, 13, 12, 11, 10, 9, 7, 6, 2, 1] [101, 0] rfl rfl
   try dsimp only [rArc, rInt] at hS
   refine then_n ?_
   replace hS := hS.ent (i := 12) (s' := .pv (.int .i64 ((i + 1 : Nat) : Int))) rfl (.int (wrap_succ (by omega)))
   replace hS := hS.ent (i := 7) (s' := .pv (.sl rInt ((l.take (i + 1)).foldl (nextStep u) []))) rfl (Ent.eqSl (by rw [take_nth hil, List.foldl_append, List.foldl_cons, List.foldl_nil]; unfold nextStep; simp [hBq]))
   obtain ⟨F, hS⟩ := hS.nm [11, 10, 6, 2, 1, 7, 12] [0] rfl rfl
   exact ⟨(i + 1), F, ⟨by omega, (by rw [take_nth hil, List.foldl_append]; exact nextStep_len hq)⟩, hS, by omega⟩
  have hil : i = l.length := by simp at hc0; omega
  refine wp_exit (then_x (then_x (block_x (then_n (wp_seq ?_)))))
  refine region_q hS
    (cF rfl (oM .t) r1 trivial
    (cF rfl (oN .t) r1 trivial
    Chain.nil))
    hB ?_
  clear hS; intro a w F hS
  obtain ⟨F, hS⟩ := hS.nm [6] [0] rfl rfl
  try dsimp only [rArc, rInt] at hS
  refine then_n (wp_ret ?_)
  refine ret_P hfr hS rfl (.tmp rfl .nil) (.one (.sl (by rw [hil, List.take_length]; rfl)))

end Go.Proofs.YtpahapjcdldodaaDoor
