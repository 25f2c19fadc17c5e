/- Operations read. No condition beyond those that each theorem says. -/
import Derived.Test.YtpjjmolibanakaaDoorOp3
import Derived.Test.YtpjjmolibanakaaDoorOp4
import Derived.Test.YtpjjmolibanakaaDoorNu1
namespace Go.Proofs.YtpjjmolibanakaaDoor
open Go Go.Gm
set_option linter.unusedVariables false
set_option linter.unusedSimpArgs false
set_option maxHeartbeats 4000000
set_option maxRecDepth 8000

theorem is_w {b : UInt8} : ((b.toNat : Int) = 119) ↔ b = 119 := ⟨fun h => is_byte (d := 119) (by rw [h]; rfl), fun h => by rw [h]; rfl⟩
theorem is_r {b : UInt8} : ((b.toNat : Int) = 114) ↔ b = 114 := ⟨fun h => is_byte (d := 114) (by rw [h]; rfl), fun h => by rw [h]; rfl⟩
theorem vals_nth (l : List (List UInt8)) (j : Nat) : nth (valsR l) j = if j < l.length then (readR (nth l j)).1 else 0 := by
  unfold valsR
  by_cases h : j < l.length
  · rw [if_pos h, nth_map (f := fun x => (readR x).1) h]
  · rw [if_neg h, nth_out (by rw [List.length_map]; omega)]; rfl
theorem opR_nums {s : List UInt8} {rd : Bool} {l : List (List UInt8)} (h : opR s = opNums rd l) (hb : badR l = 0) {o : OpD} (ho : opMk rd (valsR l) = o) : opR s = if rd = true ∧ decide (o.tx = 0) ≠ decide (l.length = 2) then (noOp, 5) else if rightO o = true then (o, 0) else (noOp, 1) := by
  rw [h]
  unfold opNums
  rw [if_neg (by rw [hb]; decide), ho]
theorem opR_badn {s : List UInt8} {rd : Bool} {l : List (List UInt8)} {i : Nat} (h : opR s = opNums rd l) (hi : i < l.length) (hz : ∀ j, j < i → (readR (nth l j)).2 = 0) (hb : (readR (nth l i)).2 ≠ 0) : opR s = (noOp, (readR (nth l i)).2) := by
  have h9 := bad_at hi hz hb
  rw [h]
  unfold opNums
  rw [if_pos (by rw [h9]; exact hb), h9]
theorem len_two (n : Nat) : decide (((n : Nat) : Int) = 2) = decide (n = 2) := decide_eq_decide.2 (by omega)
theorem right_ok {o : OpD} : rightN o = 0 ↔ rightO o = true := by unfold rightN; split <;> simp_all

theorem zeros_nth (j : Nat) : nth ([0, 0, 0] : List Int) j = 0 := by
  match j with
  | 0 => rfl
  | 1 => rfl
  | 2 => rfl
  | j + 3 => exact nth_out (l := ([0, 0, 0] : List Int)) (by simp)

theorem opRead_c (s0 : List UInt8) (hs : s0.length ≤ 9223372036854775807) : FnP Tryd.prog 7 [.bs s0] (.tup [.agg (rOp (opR s0).1), .int .i64 (opR s0).2]) := by
  refine FnP.mk Tryd.func7 rfl Tryd.ntmps7 rfl ?_
  intro B a w F hB hfr hS
  refine wp_seq ?_
  refine region_q hS
    (cF rfl (oH [.bool false, .int .i64 0, .int .i64 0, .int .i64 0] 101) trivial trivial
    (cF rfl (oN (.ci (by kernel_rfl))) trivial trivial
    Chain.nil))
    hB ?_
  clear hS; intro a w F hS
  replace hS := hS.sub
  obtain ⟨F, hS⟩ := hS.nm [3, 2, 0] [101, 0] rfl rfl
  try dsimp only [RS.sub, SF.sub, CF.sub, csub, Anc.sub, List.map, zCF] at hS
  generalize Act.tau a 2 = v2 at hS
  refine then_n (wp_seq (wp_seq ?_))
  refine region_q hS
    (cF rfl (oM .t) r1 trivial
    (cF rfl (o_eql_bs Tryd.underlying9 .t (.cs (by kernel_rfl))) r1 trivial
    (cF rfl (oM .t) r1 trivial
    (Chain.cons (Cert.cond rfl rfl (fun h => o_move .t (by rfl))) r2 trivial
    (Chain.cons (Cert.cond rfl rfl (fun h => o_index_bs Tryd.underlying9 (.w h) (.ci (by kernel_rfl)) (by decide) (by have h9 := List.length_pos_iff.2 (of_decide_eq_false h); omega))) r2 trivial
    (Chain.cons (Cert.cond rfl rfl (fun h => o_neq (.w h) (.ci (by kernel_rfl)))) r2 trivial
    (Chain.cons (Cert.cond rfl rfl (fun h => o_move (.w h) (by rfl))) r2 trivial
    (Chain.cons (Cert.cond2 rfl rfl (fun h => o_move .t (by rfl))) r2 trivial
    (Chain.cons (Cert.cond2 rfl rfl (fun h => o_index_bs Tryd.underlying9 (.w h) (.ci (by kernel_rfl)) (by decide) (by have h9 := List.length_pos_iff.2 (of_decide_eq_false h.1); omega))) r2 trivial
    (Chain.cons (Cert.cond2 rfl rfl (fun h => o_neq (.w h) (.ci (by kernel_rfl)))) r2 trivial
    (Chain.cons (Cert.cond rfl rfl (fun h => o_and2 (.w h) (.wc h))) r3 trivial
    (cF rfl (o_or2 .t .t) r2 trivial
    Chain.nil))))))))))))
    hB ?_
  clear hS; intro a w F hS
  obtain ⟨F, hS⟩ := hS.nm [23, 3, 2, 0] [101, 0] rfl rfl
  refine then_n ?_
  refine cond_b hS rfl (fun hc0 => ?_) (fun hc0 => ?_)
  ·skip
   have hh : s0 = [] ∨ (nth s0 0 ≠ 119 ∧ nth s0 0 ≠ 114) := by
     simp only [Bool.or_eq_true, Bool.and_eq_true, Bool.not_eq_true', decide_eq_true_eq, decide_eq_false_iff_not, is_w, is_r, Int.toNat_zero, ne_eq] at hc0
     exact hc0
   have hr := opR_head hh
   refine wp_seq ?_
   refine region_q hS
     (cF rfl (oB [] [.bool false, .int .i64 0, .int .i64 0, .int .i64 0] [(0, 1), (1, 1), (2, 1), (3, 1)] .nil) trivial trivial
     (cF rfl (oA 4 101 .is .t) r2 r1
     (cF rfl (oN (.ci (by kernel_rfl))) trivial trivial
     Chain.nil)))
     hB ?_
   clear hS; intro a w F hS
   obtain ⟨F, hS⟩ := hS.nm [3, 2, 0] [101, 0] rfl rfl
   try dsimp only [List.map, stCells, xL, xM, Nat.reduceAdd, xD, xE, xT, xU, xC, xN, zCF] at hS
   refine then_n (wp_ret (then_r ?_))
   refine ret_P hfr hS rfl (.cell (n := 101) (ag := true) (sz := 4) rfl .is rfl (by kernel_rfl) (by kernel_rfl) (by kernel_rfl) (.tmp rfl .nil)) (.two (.aggU rfl (by rw [hr] <;> rfl)) (.int (by rw [hr])))
  have hh : ¬ (s0 = [] ∨ (nth s0 0 ≠ 119 ∧ nth s0 0 ≠ 114)) := by
    intro hx
    rw [Bool.eq_false_iff] at hc0
    refine hc0 ?_
    simp only [Bool.or_eq_true, Bool.and_eq_true, Bool.not_eq_true', decide_eq_true_eq, decide_eq_false_iff_not, is_w, is_r, Int.toNat_zero, ne_eq]
    exact hx
  have hne : s0 ≠ [] := fun e => hh (.inl e)
  have hlp := List.length_pos_iff.2 hne
  refine wp_skip (then_n (wp_seq ?_))
  refine region_q hS
    (cF rfl (oM .t) r1 trivial
    (cF rfl (oP (opCut_c s0 hne hs) Tryd.func22 (Args.one .t)) r1 trivial
    (cF rfl (oM .t) r1 trivial
    (cF rfl (o_extract .t rfl) r1 trivial
    (cF rfl (o_extract .t rfl) r1 trivial
    (cF rfl (oN .t) r1 trivial
    (cF rfl (oN .t) r1 trivial
    Chain.nil)))))))
    hB ?_
  clear hS; intro a w F hS
  obtain ⟨F, hS⟩ := hS.nm [5, 4, 3, 2, 0] [101, 0] rfl rfl
  refine then_n (wp_seq (wp_seq ?_))
  refine region_q hS
    (cF rfl (oM .t) r1 trivial
    (cF rfl (o_not .t) r1 trivial
    Chain.nil))
    hB ?_
  clear hS; intro a w F hS
  obtain ⟨F, hS⟩ := hS.nm [31, 4, 3, 2, 0] [101, 0] rfl rfl
  refine then_n ?_
  refine cond_b hS rfl (fun hc1 => ?_) (fun hc1 => ?_)
  ·skip
   have hr := opR_cut hne (by simpa using hc1)
   refine wp_seq ?_
   refine region_q hS
     (cF rfl (oB [] [.bool false, .int .i64 0, .int .i64 0, .int .i64 0] [(0, 1), (1, 1), (2, 1), (3, 1)] .nil) trivial trivial
     (cF rfl (oA 4 101 .is .t) r2 r1
     (cF rfl (oN (.ci (by kernel_rfl))) trivial trivial
     Chain.nil)))
     hB ?_
   clear hS; intro a w F hS
   obtain ⟨F, hS⟩ := hS.nm [4, 3, 2, 0] [101, 0] rfl rfl
   try dsimp only [List.map, stCells, xL, xM, Nat.reduceAdd, xD, xE, xT, xU, xC, xN, zCF] at hS
   refine then_n (wp_ret (then_r ?_))
   refine ret_P hfr hS rfl (.cell (n := 101) (ag := true) (sz := 4) rfl .is rfl (by kernel_rfl) (by kernel_rfl) (by kernel_rfl) (.tmp rfl .nil)) (.two (.aggU rfl (by rw [hr] <;> rfl)) (.int (by rw [hr])))
  have hok : (opCut s0).2 = true := by simpa using hc1
  have hcl := cut_len hok
  have hcs := cut_small s0
  refine wp_skip (then_n (wp_seq ?_))
  refine region_q hS
    (cF rfl (oH [.int .i64 0, .int .i64 0, .int .i64 0] 102) trivial trivial
    Chain.nil)
    hB ?_
  clear hS; intro a w F hS
  replace hS := hS.sub
  obtain ⟨F, hS⟩ := hS.nm [6, 4, 3, 2, 0] [102, 101, 0] rfl rfl
  try dsimp only [RS.sub, SF.sub, CF.sub, csub, Anc.sub, List.map, zCF] at hS
  generalize Act.tau a 6 = v6 at hS
  refine then_n (wp_seq (wp_seq ?_))
  refine region_q hS
    (cF rfl (oM .t) r1 trivial
    (cF rfl (o_len_sl Tryd.underlying60 .t) r1 trivial
    (cF rfl (oM (.ci (by kernel_rfl))) trivial trivial
    Chain.nil)))
    hB ?_
  clear hS; intro a w F hS
  obtain ⟨F, hS⟩ := hS.nm [35, 34, 33, 6, 4, 3, 2, 0] [102, 101, 0] rfl rfl
  refine then_n (wp_block ?_)
  replace hS := hS.turn 102 rfl (r' := .ob (.val v6) (arrB 63 (fun n => PV.int .i64 n) [0, 0, 0])) (fun τ w f y h => pt_arrB (f := (fun n => PV.int .i64 n)) (l := [0, 0, 0]) τ w f y h)
  obtain ⟨F, hS⟩ := hS.nm [35, 34, 33, 6, 4, 2, 0] [102, 101, 0] rfl rfl
  refine loop_inv (σ := (Nat × List Int)) (fun s => (⟨[(0, .pv (.bs s0)), (2, .pv (.is v2)), (4, .pv (.sl rS (opCut s0).1)), (6, .pv (.is v6)), (33, .pv (.sl rS (opCut s0).1)), (34, .pv (.int .i64 ((opCut s0).1.length : Nat))), (35, .pv (.int .i64 (s.1 : Nat)))], [(0, frame B), (101, .pt (.val v2) 30 [.pv (.bool false), .pv (.int .i64 0), .pv (.int .i64 0), .pv (.int .i64 0)]), (102, .ob (.val v6) (arrB 63 (fun n => PV.int .i64 n) s.2))]⟩ : En)) (fun s => s.1 ≤ (opCut s0).1.length ∧ s.2.length = 3 ∧ (∀ j, j < s.1 → (readR (nth (opCut s0).1 j)).2 = 0) ∧ (∀ j, j < s.1 → nth s.2 j = (readR (nth (opCut s0).1 j)).1) ∧ ∀ j, s.1 ≤ j → nth s.2 j = 0) (fun s => (opCut s0).1.length - s.1) (0, [0, 0, 0]) hS ⟨Nat.zero_le _, rfl, fun j hj => absurd hj (Nat.not_lt_zero _), fun j hj => absurd hj (Nat.not_lt_zero _), fun j _ => zeros_nth j⟩ ?_
  clear hS; intro s a w F hC hS
  obtain ⟨i, q⟩ := s
  try dsimp only at hC
  try dsimp only at hS
  obtain ⟨hi0, hl3, hz, hq, hq0⟩ := hC
  try dsimp only at hi0 hl3 hz hq hq0
  refine wp_seq ?_
  refine region_q hS
    (cF rfl (o_lss .t .t) r2 trivial
    Chain.nil)
    hB ?_
  clear hS; intro a w F hS
  obtain ⟨F, hS⟩ := hS.nm [36, 35, 34, 33, 6, 4, 2, 0] [102, 101, 0] rfl rfl
  refine then_n (wp_seq ?_)
  refine cond_b hS rfl (fun hc2 => ?_) (fun hc2 => ?_)
  ·skip
   have hi : i < (opCut s0).1.length := by have h9 := of_decide_eq_true hc2; omega
   refine wp_skip (then_n (wp_seq (wp_block (wp_seq ?_))))
   refine region_q hS
     (cF rfl (oM .t) r1 trivial
     (cF rfl (o_indexAddr_sl (sz := 1) (.mk Tryd.underlying60 (by kernel_rfl)) (by intro x; rfl) .t .t (by omega) (by omega)) r2 trivial
     (cF rfl (oR false 1 .t) r1 trivial
     (cF rfl (oN .t) r1 trivial
     (cF rfl (oN .t) r1 trivial
     Chain.nil)))))
     hB ?_
   clear hS; intro a w F hS
   obtain ⟨F, hS⟩ := hS.nm [39, 38, 37, 36, 35, 34, 33, 8, 7, 6, 4, 2, 0] [102, 101, 0] rfl rfl
   try dsimp only [List.map, xD, xE, xT, xU, ldSF] at hS
   rw [Int.toNat_natCast] at hS
   refine then_n (wp_seq ?_)
   refine region_q hS
     (cF rfl (oM .t) r1 trivial
     (cF rfl (oP (read_c (nth (opCut s0).1 i) (by have h9 := hcs _ (nth_mem hi); omega)) Tryd.func23 (Args.one .t)) r1 trivial
     (cF rfl (oM .t) r1 trivial
     (cF rfl (o_extract .t rfl) r1 trivial
     (cF rfl (o_extract .t rfl) r1 trivial
     (cF rfl (oN .t) r1 trivial
     (cF rfl (oN .t) r1 trivial
     Chain.nil)))))))
     hB ?_
   clear hS; intro a w F hS
   obtain ⟨F, hS⟩ := hS.nm [44, 43, 42, 41, 40, 39, 38, 37, 36, 35, 34, 33, 10, 9, 8, 7, 6, 4, 2, 0] [102, 101, 0] rfl rfl
   refine then_n (wp_seq (wp_seq ?_))
   refine region_q hS
     (cF rfl (oM .t) r1 trivial
     (cF rfl (o_neq .t (.ci (by kernel_rfl))) r1 trivial
     Chain.nil))
     hB ?_
   clear hS; intro a w F hS
   obtain ⟨F, hS⟩ := hS.nm [46, 45, 44, 43, 42, 41, 40, 39, 38, 37, 36, 35, 34, 33, 10, 9, 8, 7, 6, 4, 2, 0] [102, 101, 0] rfl rfl
   refine then_n ?_
   refine cond_b hS rfl (fun hc3 => ?_) (fun hc3 => ?_)
   ·skip
    have hr := opR_badn (opR_ok hh hok) hi hz (by simpa using hc3)
    refine wp_seq ?_
    refine region_q hS
      (cF rfl (oB [] [.bool false, .int .i64 0, .int .i64 0, .int .i64 0] [(0, 1), (1, 1), (2, 1), (3, 1)] .nil) trivial trivial
      (cF rfl (oM .t) r1 trivial
      (cF rfl (oA 4 101 .is .t) r2 r1
      (cF rfl (oN .t) r1 trivial
      Chain.nil))))
      hB ?_
    clear hS; intro a w F hS
    obtain ⟨F, hS⟩ := hS.nm [48, 47, 46, 45, 44, 43, 42, 41, 40, 39, 38, 37, 36, 35, 34, 33, 10, 9, 8, 7, 6, 4, 3, 2, 0] [102, 101, 0] rfl rfl
    try dsimp only [List.map, stCells, xL, xM, Nat.reduceAdd, xD, xE, xT, xU, xC, xN, zCF] at hS
    refine then_n (wp_ret (then_r (block_r (then_r (then_r (block_r (then_r ?_)))))))
    refine ret_P hfr hS rfl (.cell (n := 101) (ag := true) (sz := 4) rfl .is rfl (by kernel_rfl) (by kernel_rfl) (by kernel_rfl) (.tmp rfl .nil)) (.two (.aggU rfl (by rw [hr] <;> rfl)) (.int (by rw [hr])))
   have hzi : (readR (nth (opCut s0).1 i)).2 = 0 := by simpa using hc3
   refine wp_skip (then_n ?_)
   refine region_q hS
     (cF rfl (oM .t) r1 trivial
     (cF rfl (oM .t) r1 trivial
     (cF rfl (o_indexAddr_ab (sz := 1) 102 Tryd.underlying63 (by kernel_rfl) .is .t (by omega) (by show (i : Int) < 3; omega)) r2 r1
     (cF rfl (o_store_ab 102 .adr .t one_int (by kernel_rfl) (by simp; omega)) r2 r1
     Chain.nil))))
     hB ?_
   clear hS; intro a w F hS
   obtain ⟨F, hS⟩ := hS.nm [51, 50, 49, 46, 45, 44, 43, 42, 41, 40, 39, 38, 37, 36, 35, 34, 33, 10, 9, 8, 7, 6, 4, 2, 0] [102, 101, 0] rfl rfl
   try dsimp only [List.map, stCells, xL, xM, Nat.reduceAdd, xD, xE, xT, xU, xC, xN, zCF] at hS
   refine block_n (then_n ?_)
   refine region_q hS
     (cF rfl (o_add .t (.ci (by kernel_rfl))) r1 trivial
     (cF rfl (oM .t) r1 trivial
     Chain.nil))
     hB ?_
   clear hS; intro a w F hS
   obtain ⟨F, hS⟩ := hS.nm [52, 51, 50, 49, 46, 45, 44, 43, 42, 41, 40, 39, 38, 37, 36, 35, 34, 33, 10, 9, 8, 7, 6, 4, 2, 0] [102, 101, 0] rfl rfl
   refine then_n ?_
   simp only [Int.toNat_natCast, Nat.zero_add, Nat.mul_one] at hS
   replace hS := hS.ent (i := 35) (s' := .pv (.int .i64 ((i + 1 : Nat) : Int))) rfl (.int (wrap_succ (by omega)))
   obtain ⟨F, hS⟩ := hS.nm [35, 34, 33, 6, 4, 2, 0] [102, 101, 0] rfl rfl
   exact ⟨(i + 1, q.set i (readR (nth (opCut s0).1 i)).1), F, ⟨by dsimp only; omega, by dsimp only; rw [List.length_set]; exact hl3, fun j hj => (Nat.lt_or_ge j i).elim (hz j) (fun h1 => (show i = j by dsimp only at hj; omega) ▸ hzi), set_step (f := fun j => (readR (nth (opCut s0).1 j)).1) (by omega) hq rfl, fun j hj => by dsimp only at hj ⊢; rw [nth_set (by omega), if_neg (by omega)]; exact hq0 j (by omega)⟩, hS, by dsimp only; omega⟩
  have hiP : i = (opCut s0).1.length := by have h9 := of_decide_eq_false hc2; omega
  have hbz := bad_none (l := (opCut s0).1) (fun j hj => hz j (by omega))
  have hv : ∀ j, j < 3 → nth q j = nth (valsR (opCut s0).1) j := by
    intro j hj
    rw [vals_nth]
    split
    · exact hq j (by omega)
    · exact hq0 j (by omega)
  obtain ⟨x0, x1, x2, rfl⟩ := three hl3
  have e0 : x0 = nth (valsR (opCut s0).1) 0 := hv 0 (by omega)
  have e1 : x1 = nth (valsR (opCut s0).1) 1 := hv 1 (by omega)
  have e2 : x2 = nth (valsR (opCut s0).1) 2 := hv 2 (by omega)
  have hdn := opR_nums (opR_ok hh hok) hbz (o := ⟨decide (nth s0 0 = 114), x0, x1, x2⟩) (by unfold opMk; rw [← e0, ← e1, ← e2])
  try dsimp only at hdn
  replace hS := hS.turn 102 rfl (r' := .pt (.val v6) 63 [.pv (.int .i64 x0), .pv (.int .i64 x1), .pv (.int .i64 x2)]) (fun τ w f y h => arrB_pt (f := (fun n => PV.int .i64 n)) (l := [x0, x1, x2]) τ w f y h)
  refine wp_exit (then_x (then_x (block_x (then_n (wp_seq ?_)))))
  refine region_any (by kernel_rfl) hS (by kernel_rfl)
    (cF rfl (oM .t) r1 trivial
    (cF rfl (o_index_bs Tryd.underlying9 .t (.ci (by kernel_rfl)) (by decide) (by omega)) r1 trivial
    (cF rfl (o_eql .t (.ci (by kernel_rfl))) r1 trivial
    (cF rfl (o_indexAddr_arr (sz := 1) 102 Tryd.underlying63 (by kernel_rfl) .is (.ci (by kernel_rfl)) (by decide) (by decide) (by rfl)) r1 r1
    (cF rfl (oL false 1 102 .adr) r1 r1
    (cF rfl (o_indexAddr_arr (sz := 1) 102 Tryd.underlying63 (by kernel_rfl) .is (.ci (by kernel_rfl)) (by decide) (by decide) (by rfl)) r1 r1
    (cF rfl (oL false 1 102 .adr) r1 r1
    (cF rfl (o_indexAddr_arr (sz := 1) 102 Tryd.underlying63 (by kernel_rfl) .is (.ci (by kernel_rfl)) (by decide) (by decide) (by rfl)) r1 r1
    (cF rfl (oL false 1 102 .adr) r1 r1
    (cF rfl (oB [(0, .tmp 55), (1, .tmp 57), (2, .tmp 59), (3, .tmp 61)] [.bool false, .int .i64 0, .int .i64 0, .int .i64 0] [(0, 1), (1, 1), (2, 1), (3, 1)] (.one rfl .t one_bool (by kernel_rfl) (.one rfl .t one_int (by kernel_rfl) (.one rfl .t one_int (by kernel_rfl) (.one rfl .t one_int (by kernel_rfl) .nil))))) r4 trivial
    (cF rfl (oH [.bool false, .int .i64 0, .int .i64 0, .int .i64 0] 103) trivial trivial
    (cF rfl (oA 4 103 .same .t) r2 r1
    Chain.nil))))))))))))
    (by kernel_rfl) (by rw [hB]; kernel_rfl) ?_
  clear hS; intro a w F hS
  replace hS := hS.sub
  obtain ⟨F, hS⟩ := hS.nm [11, 4, 2] [103, 102, 101, 0] rfl rfl
  try dsimp only [RS.sub, SF.sub, CF.sub, csub, Anc.sub, List.map, stCells, xL, xM, Nat.reduceAdd, xD, xE, xT, xU, xC, xN, zCF, ldSF] at hS
  generalize Act.tau a 11 = v11 at hS
  rw [show decide ((((nth s0 (Int.toNat 0)).toNat : Nat) : Int) = 114) = decide (nth s0 0 = 114) from byte_r _] at hS
  refine then_n (wp_seq (wp_block (wp_seq ?_)))
  refine region_q hS
    (cF rfl (oF 0 103 .is) r1 r1
    (cF rfl (oL false 1 103 .adr) r1 r1
    (cF rfl (oM .t) r1 trivial
    (Chain.cons (Cert.cond rfl rfl (fun h => o_fieldAddr (off := 2) 103 .is (by kernel_rfl) (by rfl))) r2 r1
    (Chain.cons (Cert.cond rfl rfl (fun h => o_load (ag := false) (sz := 1) 103 (.w h .adr) (by kernel_rfl) (by kernel_rfl) (by kernel_rfl) (by rfl))) r2 r1
    (Chain.cons (Cert.cond rfl rfl (fun h => o_eql (.w h) (.ci (by kernel_rfl)))) r2 trivial
    (Chain.cons (Cert.cond rfl rfl (fun h => o_move .t (by rfl))) r2 trivial
    (Chain.cons (Cert.cond rfl rfl (fun h => o_len_sl Tryd.underlying60 (.w h))) r2 trivial
    (Chain.cons (Cert.cond rfl rfl (fun h => o_eql (.w h) (.ci (by kernel_rfl)))) r2 trivial
    (Chain.cons (Cert.cond rfl rfl (fun h => o_neqB Tryd.underlying4 (.w h) (.w h))) r3 trivial
    (cF rfl (o_and2 .t .t) r2 trivial
    (cF rfl (oN .t) r1 trivial
    Chain.nil))))))))))))
    hB ?_
  clear hS; intro a w F hS
  obtain ⟨F, hS⟩ := hS.nm [63, 11, 2] [103, 102, 101, 0] rfl rfl
  try dsimp only [List.map, xD, xE, xT, xU, ldSF] at hS
  refine then_n ?_
  refine cond_b hS rfl (fun hc4 => ?_) (fun hc4 => ?_)
  ·skip
   rw [len_two, Bool.and_eq_true, bne_iff_ne] at hc4
   have hr : opR s0 = (noOp, 5) := by rw [hdn, if_pos hc4]
   refine wp_seq ?_
   refine region_q hS
     (cF rfl (oB [] [.bool false, .int .i64 0, .int .i64 0, .int .i64 0] [(0, 1), (1, 1), (2, 1), (3, 1)] .nil) trivial trivial
     (cF rfl (oA 4 101 .is .t) r2 r1
     (cF rfl (oN (.ci (by kernel_rfl))) trivial trivial
     Chain.nil)))
     hB ?_
   clear hS; intro a w F hS
   obtain ⟨F, hS⟩ := hS.nm [11, 3, 2] [103, 102, 101, 0] rfl rfl
   try dsimp only [List.map, stCells, xL, xM, Nat.reduceAdd, xD, xE, xT, xU, xC, xN, zCF] at hS
   refine then_n (wp_ret (block_r (then_r ?_)))
   refine ret_P hfr hS rfl (.cell (n := 101) (ag := true) (sz := 4) rfl .is rfl (by kernel_rfl) (by kernel_rfl) (by kernel_rfl) (.tmp rfl .nil)) (.two (.aggU rfl (by rw [hr] <;> rfl)) (.int (by rw [hr])))
  have hnf : ¬ (decide (nth s0 0 = 114) = true ∧ decide (x1 = 0) ≠ decide ((opCut s0).1.length = 2)) := by rw [← bne_iff_ne, ← Bool.and_eq_true, ← len_two, hc4]; decide
  rw [if_neg hnf] at hdn
  refine wp_seq ?_
  refine region_q hS
    (cF rfl (oL true 4 103 .is) r1 r1
    (cF rfl (oP (opRight_c ⟨decide (nth s0 0 = 114), x0, x1, x2⟩) Tryd.func17 (Args.one (.pagg .t))) r1 trivial
    (cF rfl (o_neq .t (.ci (by kernel_rfl))) r1 trivial
    (cF rfl (oN .t) r1 trivial
    Chain.nil))))
    hB ?_
  clear hS; intro a w F hS
  obtain ⟨F, hS⟩ := hS.nm [76, 11, 2] [103, 102, 101, 0] rfl rfl
  try dsimp only [List.map, xD, xE, xT, xU, ldSF] at hS
  refine then_n ?_
  refine cond_b hS rfl (fun hc5 => ?_) (fun hc5 => ?_)
  ·skip
   have hr : opR s0 = (noOp, 1) := by rw [hdn, if_neg (fun hx => by rw [right_ok.2 hx] at hc5; simp at hc5)]
   refine wp_seq ?_
   refine region_q hS
     (cF rfl (oB [] [.bool false, .int .i64 0, .int .i64 0, .int .i64 0] [(0, 1), (1, 1), (2, 1), (3, 1)] .nil) trivial trivial
     (cF rfl (oA 4 101 .is .t) r2 r1
     (cF rfl (oN (.ci (by kernel_rfl))) trivial trivial
     Chain.nil)))
     hB ?_
   clear hS; intro a w F hS
   obtain ⟨F, hS⟩ := hS.nm [11, 3, 2] [103, 102, 101, 0] rfl rfl
   try dsimp only [List.map, stCells, xL, xM, Nat.reduceAdd, xD, xE, xT, xU, xC, xN, zCF] at hS
   refine then_n (wp_ret (block_r (then_r ?_)))
   refine ret_P hfr hS rfl (.cell (n := 101) (ag := true) (sz := 4) rfl .is rfl (by kernel_rfl) (by kernel_rfl) (by kernel_rfl) (.tmp rfl .nil)) (.two (.aggU rfl (by rw [hr] <;> rfl)) (.int (by rw [hr])))
  have hr : opR s0 = (⟨decide (nth s0 0 = 114), x0, x1, x2⟩, 0) := by rw [hdn, if_pos (right_ok.1 (by simpa using hc5))]
  refine wp_skip (block_n (then_n (wp_seq ?_)))
  refine region_q hS
    (cF rfl (oL true 4 103 .is) r1 r1
    (cF rfl (oA 4 101 .is .t) r2 r1
    (cF rfl (oN (.ci (by kernel_rfl))) trivial trivial
    Chain.nil)))
    hB ?_
  clear hS; intro a w F hS
  obtain ⟨F, hS⟩ := hS.nm [3, 2] [103, 102, 101, 0] rfl rfl
  try dsimp only [List.map, stCells, xL, xM, Nat.reduceAdd, xD, xE, xT, xU, xC, xN, zCF, ldSF] at hS
  refine then_n (wp_ret ?_)
  refine ret_P hfr hS rfl (.cell (n := 101) (ag := true) (sz := 4) rfl .is rfl (by kernel_rfl) (by kernel_rfl) (by kernel_rfl) (.tmp rfl .nil)) (.two (.aggU rfl (by rw [hr] <;> rfl)) (.int (by rw [hr])))

end Go.Proofs.YtpjjmolibanakaaDoor
