/- Edges held against one another. No condition beyond those that each theorem says. -/
import Derived.Test.YtpnaolljmhhdbaaPk2
namespace Go.Proofs.Ytpnaolljmhhdbaa
open Go Go.Gm
set_option linter.unusedVariables false
set_option linter.unusedSimpArgs false
set_option maxHeartbeats 4000000
set_option maxRecDepth 8000

def cmpI (x y : Int) : Int := if x < y then -1 else if y < x then 1 else 0
def keyL (e : EdgeD) : List Int := [e.src, e.kind, e.key, e.dst]
def cmpL : List Int → List Int → Int
  | x :: xs, y :: ys => if x = y then cmpL xs ys else cmpI x y
  | _, _ => 0
def cmpE (e f : EdgeD) : Int := cmpL (keyL e) (keyL f)
theorem cmpI_0 {x y : Int} : cmpI x y = 0 ↔ x = y := by unfold cmpI; split <;> (try split) <;> omega
theorem cmpL_at : ∀ (k : Nat) (xs ys : List Int), k < xs.length → k < ys.length → (∀ j, j < k → Go.Gm.nth xs j = Go.Gm.nth ys j) → Go.Gm.nth xs k ≠ Go.Gm.nth ys k → cmpL xs ys = cmpI (Go.Gm.nth xs k) (Go.Gm.nth ys k)
  | _, [], _, h, _, _, _ => by simp at h
  | _, _ :: _, [], _, h, _, _ => by simp at h
  | 0, x :: xs, y :: ys, _, _, _, hn => by
    have hn' : x ≠ y := hn
    unfold cmpL
    rw [if_neg hn']
    rfl
  | k + 1, x :: xs, y :: ys, h1, h2, hj, hn => by
    have h0 : x = y := hj 0 (by omega)
    unfold cmpL
    rw [if_pos h0]
    exact cmpL_at k xs ys (by simpa using h1) (by simpa using h2) (fun j h => hj (j + 1) (by omega)) hn
theorem cmpL_all : ∀ (xs ys : List Int), xs.length = ys.length → (∀ j, j < xs.length → Go.Gm.nth xs j = Go.Gm.nth ys j) → cmpL xs ys = 0
  | [], [], _, _ => rfl
  | [], _ :: _, h, _ => by simp at h
  | _ :: _, [], h, _ => by simp at h
  | x :: xs, y :: ys, h, hj => by
    have h0 : x = y := hj 0 (by simp)
    unfold cmpL
    rw [if_pos h0]
    exact cmpL_all xs ys (by simpa using h) (fun j h => hj (j + 1) (by simpa using h))

theorem isNaN_c (n : Int) : FnP Try.prog 125 [.int .i64 n] (.bool false) := by
  refine FnP.mk Try.func125 rfl Try.ntmps125 rfl ?_
  intro B a w F hB hfr hS
  refine wp_seq ?_
  refine region_q hS
    (cF rfl (oN .cb) trivial trivial
    Chain.nil)
    hB ?_
  clear hS; intro a w F hS
  obtain ⟨F, hS⟩ := hS.nm [2, 0] [0] rfl rfl
  refine then_n (wp_seq ?_)
  refine region_q hS
    (cF rfl (oM .t) r1 trivial
    (cF rfl (oM .t) r1 trivial
    (cF rfl (o_neq .t .t) r2 trivial
    (cF rfl (oN .t) r1 trivial
    Chain.nil))))
    hB ?_
  clear hS; intro a w F hS
  obtain ⟨F, hS⟩ := hS.nm [2] [0] rfl rfl
  refine then_n (wp_ret ?_)
  refine ret_P hfr hS rfl (.tmp rfl .nil) (.one (.bool (by simp)))

theorem cmpI_c (m n : Int) : FnP Try.prog 114 [.int .i64 m, .int .i64 n] (.int .i64 (cmpI m n)) := by
  refine FnP.mk Try.func114 rfl Try.ntmps114 rfl ?_
  intro B a w F hB hfr hS
  refine wp_seq ?_
  refine region_q hS
    (cF rfl (oN (.ci (by kernel_rfl))) trivial trivial
    Chain.nil)
    hB ?_
  clear hS; intro a w F hS
  obtain ⟨F, hS⟩ := hS.nm [4, 1, 0] [0] rfl rfl
  refine then_n (wp_seq ?_)
  refine region_q hS
    (cF rfl (oM .t) r1 trivial
    (cF rfl (oP (isNaN_c _) Try.func125 (Args.one .t)) r1 trivial
    (cF rfl (oN .t) r1 trivial
    Chain.nil)))
    hB ?_
  clear hS; intro a w F hS
  obtain ⟨F, hS⟩ := hS.nm [5, 4, 1, 0] [0] rfl rfl
  refine then_n (wp_seq ?_)
  refine region_q hS
    (cF rfl (oM .t) r1 trivial
    (cF rfl (oP (isNaN_c _) Try.func125 (Args.one .t)) r1 trivial
    (cF rfl (oN .t) r1 trivial
    Chain.nil)))
    hB ?_
  clear hS; intro a w F hS
  obtain ⟨F, hS⟩ := hS.nm [6, 5, 4, 1, 0] [0] rfl rfl
  refine then_n (wp_seq (wp_seq ?_))
  refine region_q hS
    (cF rfl (oM .t) r1 trivial
    Chain.nil)
    hB ?_
  clear hS; intro a w F hS
  obtain ⟨F, hS⟩ := hS.nm [11, 6, 4, 1, 0] [0] rfl rfl
  refine then_n ?_
  refine cond_b hS rfl (fun hc0 => ?_) (fun hc0 => ?_)
  ·skip
   cases hc0
  refine wp_skip (then_n (wp_seq (wp_seq ?_)))
  refine region_q hS
    (cF rfl (oM .t) r1 trivial
    Chain.nil)
    hB ?_
  clear hS; intro a w F hS
  obtain ⟨F, hS⟩ := hS.nm [13, 4, 1, 0] [0] rfl rfl
  refine then_n ?_
  refine cond_b hS rfl (fun hc1 => ?_) (fun hc1 => ?_)
  ·skip
   cases hc1
  refine wp_skip (then_n (wp_seq (wp_seq ?_)))
  refine region_q hS
    (cF rfl (oM .t) r1 trivial
    (cF rfl (oM .t) r1 trivial
    (cF rfl (o_lss .t .t) r2 trivial
    Chain.nil)))
    hB ?_
  clear hS; intro a w F hS
  obtain ⟨F, hS⟩ := hS.nm [16, 4, 1, 0] [0] rfl rfl
  refine then_n ?_
  refine cond_b hS rfl (fun hc2 => ?_) (fun hc2 => ?_)
  ·skip
   have hg : cmpI m n = -1 := if_pos (of_decide_eq_true hc2)
   refine wp_seq ?_
   refine region_q hS
     (cF rfl (oN (.ci (by kernel_rfl))) trivial trivial
     Chain.nil)
     hB ?_
   clear hS; intro a w F hS
   obtain ⟨F, hS⟩ := hS.nm [4, 1, 0] [0] rfl rfl
   refine then_n (wp_ret (then_r ?_))
   refine ret_P hfr hS rfl (.tmp rfl .nil) (.one (.int (by rw [hg])))
  have h1 : ¬ m < n := of_decide_eq_false hc2
  refine wp_skip (then_n (wp_seq (wp_seq ?_)))
  refine region_q hS
    (cF rfl (oM .t) r1 trivial
    (cF rfl (oM .t) r1 trivial
    (cF rfl (o_gtr .t .t) r2 trivial
    Chain.nil)))
    hB ?_
  clear hS; intro a w F hS
  obtain ⟨F, hS⟩ := hS.nm [19, 4] [0] rfl rfl
  refine then_n ?_
  refine cond_b hS rfl (fun hc3 => ?_) (fun hc3 => ?_)
  ·skip
   have hg : cmpI m n = 1 := by unfold cmpI; rw [if_neg h1, if_pos (of_decide_eq_true hc3)]
   refine wp_seq ?_
   refine region_q hS
     (cF rfl (oN (.ci (by kernel_rfl))) trivial trivial
     Chain.nil)
     hB ?_
   clear hS; intro a w F hS
   obtain ⟨F, hS⟩ := hS.nm [4] [0] rfl rfl
   refine then_n (wp_ret (then_r ?_))
   refine ret_P hfr hS rfl (.tmp rfl .nil) (.one (.int (by rw [hg])))
  have hg : cmpI m n = 0 := by unfold cmpI; rw [if_neg h1, if_neg (of_decide_eq_false hc3)]
  refine wp_skip (then_n (wp_seq ?_))
  refine region_q hS
    (cF rfl (oN (.ci (by kernel_rfl))) trivial trivial
    Chain.nil)
    hB ?_
  clear hS; intro a w F hS
  obtain ⟨F, hS⟩ := hS.nm [4] [0] rfl rfl
  refine then_n (wp_ret ?_)
  refine ret_P hfr hS rfl (.tmp rfl .nil) (.one (.int (by rw [hg])))

theorem compare_c (d e : EdgeD) : FnP Try.prog 86 [.agg (rEdge d), .agg (rEdge e)] (.int .i64 (cmpE d e)) := by
  refine FnP.mk Try.func86 rfl Try.ntmps86 rfl ?_
  intro B a w F hB hfr hS
  refine wp_seq ?_
  refine region_q hS
    (cF rfl (oX 101 (.conv .t .agg)) r1 trivial
    (cF rfl (oX 102 (.conv .t .agg)) r1 trivial
    (cF rfl (oN (.ci (by kernel_rfl))) trivial trivial
    Chain.nil)))
    hB ?_
  clear hS; intro a w F hS
  replace hS := hS.sub
  obtain ⟨F, hS⟩ := hS.nm [4, 3, 2] [102, 101, 0] rfl rfl
  try dsimp only [RS.sub, SF.sub, CF.sub, csub, Anc.sub, List.map, zCF] at hS
  generalize Act.tau a 2 = v2 at hS
  generalize Act.tau a 3 = v3 at hS
  refine then_n (wp_seq ?_)
  refine region_q hS
    (cF rfl (oF 0 101 .is) r1 r1
    (cF rfl (oL false 1 101 .adr) r1 r1
    (cF rfl (oF 2 101 .is) r1 r1
    (cF rfl (oL false 1 101 .adr) r1 r1
    (cF rfl (oF 3 101 .is) r1 r1
    (cF rfl (oL false 1 101 .adr) r1 r1
    (cF rfl (oF 1 101 .is) r1 r1
    (cF rfl (oL false 1 101 .adr) r1 r1
    (cF rfl (o_buildA (sz := 1) (r := [(0, .tmp 10), (1, .tmp 12), (2, .tmp 14), (3, .tmp 16)]) (zs := [.int .i64 0, .int .i64 0, .int .i64 0, .int .i64 0]) (pl := [(0, 1), (1, 1), (2, 1), (3, 1)]) Try.underlying167 (by kernel_rfl) (by kernel_rfl) rfl (.one rfl .t one_int (by kernel_rfl) (.one rfl .t one_int (by kernel_rfl) (.one rfl .t one_int (by kernel_rfl) (.one rfl .t one_int (by kernel_rfl) .nil)))) (by rfl)) r4 trivial
    (cF rfl (oH [.int .i64 0, .int .i64 0, .int .i64 0, .int .i64 0] 103) trivial trivial
    (cF rfl (oA 4 103 .same .t) r2 r1
    Chain.nil)))))))))))
    hB ?_
  clear hS; intro a w F hS
  replace hS := hS.sub
  obtain ⟨F, hS⟩ := hS.nm [5, 4, 3] [103, 102, 0] rfl rfl
  try dsimp only [RS.sub, SF.sub, CF.sub, csub, Anc.sub, List.map, stCells, xL, xM, Nat.reduceAdd, xD, xE, xT, xU, xC, xN, zCF, ldSF] at hS
  generalize Act.tau a 5 = v5 at hS
  refine then_n (wp_seq ?_)
  refine region_q hS
    (cF rfl (oF 0 102 .is) r1 r1
    (cF rfl (oL false 1 102 .adr) r1 r1
    (cF rfl (oF 2 102 .is) r1 r1
    (cF rfl (oL false 1 102 .adr) r1 r1
    (cF rfl (oF 3 102 .is) r1 r1
    (cF rfl (oL false 1 102 .adr) r1 r1
    (cF rfl (oF 1 102 .is) r1 r1
    (cF rfl (oL false 1 102 .adr) r1 r1
    (cF rfl (o_buildA (sz := 1) (r := [(0, .tmp 19), (1, .tmp 21), (2, .tmp 23), (3, .tmp 25)]) (zs := [.int .i64 0, .int .i64 0, .int .i64 0, .int .i64 0]) (pl := [(0, 1), (1, 1), (2, 1), (3, 1)]) Try.underlying167 (by kernel_rfl) (by kernel_rfl) rfl (.one rfl .t one_int (by kernel_rfl) (.one rfl .t one_int (by kernel_rfl) (.one rfl .t one_int (by kernel_rfl) (.one rfl .t one_int (by kernel_rfl) .nil)))) (by rfl)) r4 trivial
    (cF rfl (oH [.int .i64 0, .int .i64 0, .int .i64 0, .int .i64 0] 104) trivial trivial
    (cF rfl (oA 4 104 .same .t) r2 r1
    Chain.nil)))))))))))
    hB ?_
  clear hS; intro a w F hS
  replace hS := hS.sub
  obtain ⟨F, hS⟩ := hS.nm [6, 5, 4] [104, 103, 0] rfl rfl
  try dsimp only [RS.sub, SF.sub, CF.sub, csub, Anc.sub, List.map, stCells, xL, xM, Nat.reduceAdd, xD, xE, xT, xU, xC, xN, zCF, ldSF] at hS
  generalize Act.tau a 6 = v6 at hS
  refine then_n (wp_seq (wp_seq ?_))
  refine region_q hS
    (cF rfl (oM (.ci (by kernel_rfl))) trivial trivial
    Chain.nil)
    hB ?_
  clear hS; intro a w F hS
  obtain ⟨F, hS⟩ := hS.nm [27, 6, 5, 4] [104, 103, 0] rfl rfl
  refine then_n (wp_block ?_)
  replace hS := hS.turn 103 rfl (r' := .ob (.val v5) (arrB 167 (fun x => PV.int .i64 x) (keyL d))) (fun τ w f y h => pt_arrB (f := (fun x => PV.int .i64 x)) (l := keyL d) τ w f y h)
  replace hS := hS.turn 104 rfl (r' := .ob (.val v6) (arrB 167 (fun x => PV.int .i64 x) (keyL e))) (fun τ w f y h => pt_arrB (f := (fun x => PV.int .i64 x)) (l := keyL e) τ w f y h)
  obtain ⟨F, hS⟩ := hS.nm [27, 6, 5] [104, 103, 0] rfl rfl
  refine loop_inv (σ := Nat) (fun s => (⟨[(5, .pv (.is v5)), (6, .pv (.is v6)), (27, .pv (.int .i64 s))], [(0, frame B), (103, .ob (.val v5) (arrB 167 (fun x => PV.int .i64 x) (keyL d))), (104, .ob (.val v6) (arrB 167 (fun x => PV.int .i64 x) (keyL e)))]⟩ : En)) (fun s => s ≤ 4 ∧ ∀ j, j < s → Go.Gm.nth (keyL d) j = Go.Gm.nth (keyL e) j) (fun s => 4 - s) 0 hS ⟨by decide, fun j hj => absurd hj (Nat.not_lt_zero j)⟩ ?_
  clear hS; intro k a w F hC hS
  try dsimp only at hC
  try dsimp only at hS
  obtain ⟨hk, hq⟩ := hC
  refine wp_seq ?_
  refine region_q hS
    (cF rfl (o_lss .t (.ci (by kernel_rfl))) r1 trivial
    Chain.nil)
    hB ?_
  clear hS; intro a w F hS
  obtain ⟨F, hS⟩ := hS.nm [28, 27, 6, 5] [104, 103, 0] rfl rfl
  refine then_n (wp_seq ?_)
  refine cond_b hS rfl (fun hc0 => ?_) (fun hc0 => ?_)
  ·skip
   have hkl : k < 4 := by simp at hc0; omega
   refine wp_skip (then_n (wp_seq (wp_block (wp_seq ?_))))
   refine region_q hS
     (cF rfl (oM .t) r1 trivial
     (cF rfl (oN .t) r1 trivial
     Chain.nil))
     hB ?_
   clear hS; intro a w F hS
   obtain ⟨F, hS⟩ := hS.nm [29, 28, 27, 7, 6, 5] [104, 103, 0] rfl rfl
   refine then_n (wp_seq ?_)
   refine region_any (by kernel_rfl) hS (by kernel_rfl)
     (cF rfl (oM .t) r1 trivial
     (cF rfl (o_indexAddr_ab (sz := 1) 103 Try.underlying167 (by kernel_rfl) .is .t (by omega) (by omega)) r2 r1
     (cF rfl (o_load_ab 103 .adr (by kernel_rfl) (by kernel_rfl) (by simp only [keyL, List.length_cons, List.length_nil]; omega)) r1 r1
     (cF rfl (oM .t) r1 trivial
     (cF rfl (o_indexAddr_ab (sz := 1) 104 Try.underlying167 (by kernel_rfl) .is .t (by omega) (by omega)) r2 r1
     (cF rfl (o_load_ab 104 .adr (by kernel_rfl) (by kernel_rfl) (by simp only [keyL, List.length_cons, List.length_nil]; omega)) r1 r1
     (cF rfl (oP (cmpI_c _ _) Try.func114 (Args.two .t .t)) r2 trivial
     (cF rfl (oN .t) r1 trivial
     Chain.nil))))))))
     (by kernel_rfl) (by rw [hB]; kernel_rfl) ?_
   clear hS; intro a w F hS
   obtain ⟨F, hS⟩ := hS.nm [36, 35, 34, 33, 32, 31, 30, 29, 28, 27, 8, 7, 6, 5] [104, 103, 0] rfl rfl
   try dsimp only [List.map, xD, xE, xT, xU, ldSF] at hS
   simp only [Nat.zero_add, Nat.mul_one, Int.toNat_natCast] at hS
   refine then_n (wp_seq ?_)
   refine region_q hS
     (cF rfl (oM .t) r1 trivial
     (cF rfl (o_neq .t (.ci (by kernel_rfl))) r1 trivial
     Chain.nil))
     hB ?_
   clear hS; intro a w F hS
   obtain ⟨F, hS⟩ := hS.nm [38, 37, 36, 35, 34, 33, 32, 31, 30, 29, 28, 27, 8, 7, 6, 5] [104, 103, 0] rfl rfl
   refine then_n ?_
   refine cond_b hS rfl (fun hc1 => ?_) (fun hc1 => ?_)
   ·skip
    have hne : cmpI (Go.Gm.nth (keyL d) k) (Go.Gm.nth (keyL e) k) ≠ 0 := by simpa using hc1
    have hg : cmpE d e = cmpI (Go.Gm.nth (keyL d) k) (Go.Gm.nth (keyL e) k) := cmpL_at k _ _ hkl hkl hq (fun e => hne (cmpI_0.2 e))
    refine wp_seq ?_
    refine region_q hS
      (cF rfl (oM .t) r1 trivial
      (cF rfl (oN .t) r1 trivial
      Chain.nil))
      hB ?_
    clear hS; intro a w F hS
    obtain ⟨F, hS⟩ := hS.nm [39, 38, 37, 36, 35, 34, 33, 32, 31, 30, 29, 28, 27, 8, 7, 6, 5, 4] [104, 103, 0] rfl rfl
    refine then_n (wp_ret (block_r (then_r (then_r (block_r (then_r ?_))))))
    refine ret_P hfr hS rfl (.tmp rfl .nil) (.one (.int (by rw [hg])))
   have hqk : Go.Gm.nth (keyL d) k = Go.Gm.nth (keyL e) k := cmpI_0.1 (by simpa using hc1)
   refine wp_skip (block_n (then_n ?_))
   refine region_q hS
     (cF rfl (o_add .t (.ci (by kernel_rfl))) r1 trivial
     (cF rfl (oM .t) r1 trivial
     Chain.nil))
     hB ?_
   clear hS; intro a w F hS
   obtain ⟨F, hS⟩ := hS.nm [40, 38, 37, 36, 35, 34, 33, 32, 31, 30, 29, 28, 27, 8, 7, 6, 5] [104, 103, 0] rfl rfl
   refine then_n ?_
   replace hS := hS.ent (i := 27) (s' := .pv (.int .i64 ((k + 1 : Nat) : Int))) rfl (.int (wrap_succ (by omega)))
   obtain ⟨F, hS⟩ := hS.nm [27, 6, 5] [104, 103, 0] rfl rfl
   exact ⟨k + 1, F, ⟨by omega, fun j hj => by rcases Nat.lt_or_eq_of_le (Nat.le_of_lt_succ hj) with h | h; exact hq j h; rw [h]; exact hqk⟩, hS, by omega⟩
  have hg : cmpE d e = 0 := cmpL_all _ _ rfl fun j hj => hq j (by simp only [keyL, List.length_cons, List.length_nil] at hj; simp at hc0; omega)
  refine wp_exit (then_x (then_x (block_x (then_n (wp_seq ?_)))))
  refine region_q hS
    (cF rfl (oN (.ci (by kernel_rfl))) trivial trivial
    Chain.nil)
    hB ?_
  clear hS; intro a w F hS
  obtain ⟨F, hS⟩ := hS.nm [4] [104, 103, 0] rfl rfl
  refine then_n (wp_ret ?_)
  refine ret_P hfr hS rfl (.tmp rfl .nil) (.one (.int (by rw [hg])))

end Go.Proofs.Ytpnaolljmhhdbaa
