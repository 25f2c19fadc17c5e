/- Digits cut off. No condition beyond those that each theorem says. -/
import Derived.Test.YtpjjmolibanakaaDoorOp0
namespace Go.Proofs.YtpjjmolibanakaaDoor
open Go Go.Gm
set_option linter.unusedVariables false
set_option linter.unusedSimpArgs false
set_option maxHeartbeats 4000000
set_option maxRecDepth 8000

def tenL : List UInt8 := [48, 49, 50, 51, 52, 53, 54, 55, 56, 57]
def setTo (i : Nat) : List Bool := (tenL.take i).foldl (fun l c => l.set c.toNat true) (List.replicate 256 false)
theorem setTo_len : ∀ i, i ≤ 10 → (setTo i).length = 256 := by decide +kernel
theorem setTo_next : ∀ i, i < 10 → setTo (i + 1) = (setTo i).set (nth tenL i).toNat true := by decide +kernel
theorem tenL_low : ∀ i, i < 10 → (nth tenL i).toNat < 128 := by decide +kernel
def setL : List Bool := setTo 10
theorem setL_is0 : ∀ n, n < 256 → nth setL n = (decide (48 ≤ n) && decide (n ≤ 57)) := by decide +kernel
theorem setL_is (c : UInt8) : nth setL c.toNat = digit c := setL_is0 _ c.toNat_lt
def trimR (s : List UInt8) : List UInt8 := (s.reverse.dropWhile digit).reverse
theorem trimR_snoc (s : List UInt8) (c : UInt8) : trimR (s ++ [c]) = if digit c = true then trimR s else s ++ [c] := by
  unfold trimR
  rw [List.reverse_append, List.reverse_singleton, List.singleton_append, List.dropWhile_cons]
  split
  · rfl
  · simp
theorem last_split {s : List UInt8} (h : 0 < s.length) : s.take (s.length - 1) ++ [nth s (s.length - 1)] = s := by
  have := take_next (q := s) (k := s.length - 1) (by omega)
  rw [this, show s.length - 1 + 1 = s.length by omega, List.take_length]
theorem all_dropW : ∀ s : List UInt8, s.dropWhile digit = [] ↔ s.all digit = true
  | [] => by simp
  | b :: l => by
    by_cases hb : digit b = true
    · rw [List.dropWhile_cons_of_pos hb, List.all_cons, hb, Bool.true_and]; exact all_dropW l
    · rw [List.dropWhile_cons_of_neg hb, List.all_cons]; simp [hb]
theorem trim_all (s : List UInt8) : (trimR s).dropWhile digit = [] ↔ s.all digit = true := by
  rw [all_dropW]
  unfold trimR
  constructor
  · intro h
    rw [List.all_reverse] at h
    have h2 := (all_dropW s.reverse)
    have h3 : s.reverse.dropWhile digit = [] := by
      match hd : s.reverse.dropWhile digit with
      | [] => rfl
      | x :: e =>
        have hx := List.head_dropWhile_not digit (l := s.reverse) (by rw [hd]; simp)
        simp only [hd, List.head_cons] at hx
        rw [hd, List.all_cons, hx] at h
        cases h
    rw [← List.all_reverse]
    exact h2.1 h3
  · intro h
    have : s.reverse.dropWhile digit = [] := (all_dropW _).2 (by rw [List.all_reverse]; exact h)
    rw [this]
    rfl

theorem contains_c (c : UInt8) : FnP Tryd.prog 70 [.ref (setL.map (fun x => PV.bool x)), .int .u8 ((c.toNat : Nat) : Int)] (.bool (digit c)) := by
  refine FnP.mk Tryd.func70 rfl Tryd.ntmps70 rfl ?_
  intro B a w F hB hfr hS
  refine wp_seq ?_
  refine region_q hS
    (cF rfl (oN .cb) trivial trivial
    Chain.nil)
    hB ?_
  clear hS; intro a w F hS
  obtain ⟨F, hS⟩ := hS.nm [4, 1, 0] [0] rfl rfl
  refine then_n (wp_seq ?_)
  refine region_q hS
    (cF rfl (oM .t) r1 trivial
    (cF rfl (oM .t) r1 trivial
    (cF rfl (o_nilCheck_ref .t) r1 trivial
    (cF rfl (o_indexAddr_refA (f := (fun x => PV.bool x)) Tryd.underlying95 (by kernel_rfl) .t .t (by omega) (by have := c.toNat_lt; omega) rfl) r2 trivial
    (cF rfl (oR false 1 .t) r1 trivial
    (cF rfl (oN .t) r1 trivial
    Chain.nil))))))
    hB ?_
  clear hS; intro a w F hS
  obtain ⟨F, hS⟩ := hS.nm [4] [0] rfl rfl
  try dsimp only [List.map, xD, xE, xT, xU, ldSF] at hS
  refine then_n (wp_ret ?_)
  refine ret_P hfr hS rfl (.tmp rfl .nil) (.one (.bool (by rw [show ((c.toNat : Nat) : Int).toNat = c.toNat from Int.toNat_natCast _, setL_is])))

theorem trimL_c (s0 : List UInt8) (hs : s0.length ≤ 9223372036854775807) : FnP Tryd.prog 51 [.bs s0, .ref (setL.map (fun x => PV.bool x))] (.bs (s0.dropWhile digit)) := by
  refine FnP.mk Tryd.func51 rfl Tryd.ntmps51 rfl ?_
  intro B a w F hB hfr hS
  refine wp_seq ?_
  refine region_q hS
    (cF rfl (oN (.cs (by kernel_rfl))) trivial trivial
    Chain.nil)
    hB ?_
  clear hS; intro a w F hS
  obtain ⟨F, hS⟩ := hS.nm [4, 1, 0] [0] rfl rfl
  refine then_n (wp_seq (wp_block ?_))
  obtain ⟨F, hS⟩ := hS.nm [1, 0] [0] rfl rfl
  refine loop_inv (σ := (List UInt8)) (fun s => (⟨[(0, .pv (.bs s)), (1, .pv (.ref (setL.map (fun x => PV.bool x))))], [(0, frame B)]⟩ : En)) (fun s => s.dropWhile digit = s0.dropWhile digit ∧ s.length ≤ s0.length) (fun s => s.length) s0 hS ⟨rfl, Nat.le_refl _⟩ ?_
  clear hS; intro r a w F hC hS
  try dsimp only at hC
  try dsimp only at hS
  obtain ⟨hr, hrl⟩ := hC
  refine wp_seq (wp_seq ?_)
  refine region_q hS
    (cF rfl (oM .t) r1 trivial
    (cF rfl (o_len_bs Tryd.underlying9 .t) r1 trivial
    (cF rfl (o_gtr .t (.ci (by kernel_rfl))) r1 trivial
    Chain.nil)))
    hB ?_
  clear hS; intro a w F hS
  obtain ⟨F, hS⟩ := hS.nm [7, 6, 5, 1, 0] [0] rfl rfl
  refine then_n ?_
  refine cond_b hS rfl (fun hc0 => ?_) (fun hc0 => ?_)
  ·skip
   have hl0 : 0 < r.length := by have h9 := of_decide_eq_true hc0; omega
   have hb0 := cons_eq (List.length_pos_iff.1 hl0)
   refine wp_skip (then_n (wp_block (wp_seq (wp_seq ?_))))
   refine region_q hS
     (cF rfl (oM .t) r1 trivial
     (cF rfl (oM .t) r1 trivial
     (cF rfl (o_index_bs Tryd.underlying9 .t (.ci (by kernel_rfl)) (by decide) (by omega)) r1 trivial
     (cF rfl (oP (contains_c (nth r 0)) Tryd.func70 (Args.two .t .t)) r2 trivial
     (cF rfl (o_not .t) r1 trivial
     Chain.nil)))))
     hB ?_
   clear hS; intro a w F hS
   obtain ⟨F, hS⟩ := hS.nm [12, 11, 10, 9, 8, 7, 6, 5, 1, 0] [0] rfl rfl
   refine then_n ?_
   refine cond_b hS rfl (fun hc1 => ?_) (fun hc1 => ?_)
   ·skip
    have hend : r = r.dropWhile digit := by
      simp at hc1
      conv => rhs; rw [hb0, List.dropWhile_cons_of_neg (by rw [hc1]; simp)]
      exact hb0
    refine wp_exit (then_x ?_)
    refine block_y (by decide) ?_
    refine then_x (block_x (then_n (wp_seq ?_)))
    refine region_q hS
      (cF rfl (oM .t) r1 trivial
      (cF rfl (oN .t) r1 trivial
      Chain.nil))
      hB ?_
    clear hS; intro a w F hS
    obtain ⟨F, hS⟩ := hS.nm [4] [0] rfl rfl
    refine then_n (wp_ret ?_)
    refine ret_P hfr hS rfl (.tmp rfl .nil) (.one (.bs (by rw [← hr]; exact hend)))
   have hd : digit (nth r 0) = true := by simpa using hc1
   refine wp_skip (then_n ?_)
   refine region_q hS
     (cF rfl (oM .t) r1 trivial
     (cF rfl (o_slice_bs_lo Tryd.underlying9 .t (.ci (by kernel_rfl)) (by decide) (by omega)) r1 trivial
     (cF rfl (oN .t) r1 trivial
     Chain.nil)))
     hB ?_
   clear hS; intro a w F hS
   obtain ⟨F, hS⟩ := hS.nm [14, 13, 12, 11, 10, 9, 8, 7, 6, 5, 1, 0] [0] rfl rfl
   refine block_n (then_n ?_)
   obtain ⟨F, hS⟩ := hS.nm [1, 0] [0] rfl rfl
   exact ⟨r.drop 1, F, ⟨by rw [← hr]; conv => rhs; rw [hb0, List.dropWhile_cons_of_pos hd], by rw [List.length_drop]; omega⟩, hS, by rw [List.length_drop]; omega⟩
  have h9 := of_decide_eq_false hc0
  have hend : r = r.dropWhile digit := by rw [List.length_eq_zero_iff.1 (by omega : r.length = 0)]; rfl
  refine wp_exit (then_x (then_x (block_x (then_n (wp_seq ?_)))))
  refine region_q hS
    (cF rfl (oM .t) r1 trivial
    (cF rfl (oN .t) r1 trivial
    Chain.nil))
    hB ?_
  clear hS; intro a w F hS
  obtain ⟨F, hS⟩ := hS.nm [4] [0] rfl rfl
  refine then_n (wp_ret ?_)
  refine ret_P hfr hS rfl (.tmp rfl .nil) (.one (.bs (by rw [← hr]; exact hend)))

theorem trimR_c (s0 : List UInt8) (hs : s0.length ≤ 9223372036854775807) : FnP Tryd.prog 52 [.bs s0, .ref (setL.map (fun x => PV.bool x))] (.bs (trimR s0)) := by
  refine FnP.mk Tryd.func52 rfl Tryd.ntmps52 rfl ?_
  intro B a w F hB hfr hS
  refine wp_seq ?_
  refine region_q hS
    (cF rfl (oN (.cs (by kernel_rfl))) trivial trivial
    Chain.nil)
    hB ?_
  clear hS; intro a w F hS
  obtain ⟨F, hS⟩ := hS.nm [4, 1, 0] [0] rfl rfl
  refine then_n (wp_seq (wp_block ?_))
  obtain ⟨F, hS⟩ := hS.nm [1, 0] [0] rfl rfl
  refine loop_inv (σ := (List UInt8)) (fun s => (⟨[(0, .pv (.bs s)), (1, .pv (.ref (setL.map (fun x => PV.bool x))))], [(0, frame B)]⟩ : En)) (fun s => trimR s = trimR s0 ∧ s.length ≤ s0.length) (fun s => s.length) s0 hS ⟨rfl, Nat.le_refl _⟩ ?_
  clear hS; intro r a w F hC hS
  try dsimp only at hC
  try dsimp only at hS
  obtain ⟨hr, hrl⟩ := hC
  refine wp_seq (wp_seq ?_)
  refine region_q hS
    (cF rfl (oM .t) r1 trivial
    (cF rfl (o_len_bs Tryd.underlying9 .t) r1 trivial
    (cF rfl (o_gtr .t (.ci (by kernel_rfl))) r1 trivial
    Chain.nil)))
    hB ?_
  clear hS; intro a w F hS
  obtain ⟨F, hS⟩ := hS.nm [7, 6, 5, 1, 0] [0] rfl rfl
  refine then_n ?_
  refine cond_b hS rfl (fun hc0 => ?_) (fun hc0 => ?_)
  ·skip
   have hl0 : 0 < r.length := by have h9 := of_decide_eq_true hc0; omega
   have hb0 := last_split hl0
   have hw1 : IntKind.wrap .i64 ((r.length : Int) - 1) = ((r.length - 1 : Nat) : Int) := by rw [wrap_i64 (by omega)]; omega
   refine wp_skip (then_n (wp_block (wp_seq (wp_seq ?_))))
   refine region_q hS
     (cF rfl (oM .t) r1 trivial
     (cF rfl (oM .t) r1 trivial
     (cF rfl (oM .t) r1 trivial
     (cF rfl (o_len_bs Tryd.underlying9 .t) r1 trivial
     (cF rfl (o_sub .t (.ci (by kernel_rfl))) r1 trivial
     (cF rfl (o_index_bs Tryd.underlying9 .t .t (by rw [hw1]; omega) (by rw [hw1]; omega)) r2 trivial
     (cF rfl (oP (contains_c (nth r (IntKind.wrap .i64 ((r.length : Int) - 1)).toNat)) Tryd.func70 (Args.two .t .t)) r2 trivial
     (cF rfl (o_not .t) r1 trivial
     Chain.nil))))))))
     hB ?_
   clear hS; intro a w F hS
   obtain ⟨F, hS⟩ := hS.nm [15, 14, 13, 12, 11, 10, 9, 8, 7, 6, 5, 1, 0] [0] rfl rfl
   refine then_n ?_
   refine cond_b hS rfl (fun hc1 => ?_) (fun hc1 => ?_)
   ·skip
    have hend : r = trimR r := by
      simp at hc1
      rw [hw1, Int.toNat_natCast] at hc1
      conv => rhs; rw [← hb0, trimR_snoc, if_neg (by rw [hc1]; simp)]
      exact hb0.symm
    refine wp_exit (then_x ?_)
    refine block_y (by decide) ?_
    refine then_x (block_x (then_n (wp_seq ?_)))
    refine region_q hS
      (cF rfl (oM .t) r1 trivial
      (cF rfl (oN .t) r1 trivial
      Chain.nil))
      hB ?_
    clear hS; intro a w F hS
    obtain ⟨F, hS⟩ := hS.nm [4] [0] rfl rfl
    refine then_n (wp_ret ?_)
    refine ret_P hfr hS rfl (.tmp rfl .nil) (.one (.bs (by rw [← hr]; exact hend)))
   have hd : digit (nth r (r.length - 1)) = true := by rw [hw1, Int.toNat_natCast] at hc1; simpa using hc1
   refine wp_skip (then_n ?_)
   refine region_q hS
     (cF rfl (oM .t) r1 trivial
     (cF rfl (oM .t) r1 trivial
     (cF rfl (o_len_bs Tryd.underlying9 .t) r1 trivial
     (cF rfl (o_sub .t (.ci (by kernel_rfl))) r1 trivial
     (cF rfl (o_slice_bs_hi Tryd.underlying9 .t .t (by rw [hw1]; omega) (by rw [hw1]; omega)) r2 trivial
     (cF rfl (oN .t) r1 trivial
     Chain.nil))))))
     hB ?_
   clear hS; intro a w F hS
   obtain ⟨F, hS⟩ := hS.nm [20, 19, 18, 17, 16, 15, 14, 13, 12, 11, 10, 9, 8, 7, 6, 5, 1, 0] [0] rfl rfl
   rw [hw1, Int.toNat_natCast] at hS
   refine block_n (then_n ?_)
   obtain ⟨F, hS⟩ := hS.nm [1, 0] [0] rfl rfl
   exact ⟨r.take (r.length - 1), F, ⟨by rw [← hr]; conv => rhs; rw [← hb0, trimR_snoc, if_pos hd], by rw [List.length_take]; omega⟩, hS, by rw [List.length_take]; omega⟩
  have h9 := of_decide_eq_false hc0
  have hend : r = trimR r := by rw [List.length_eq_zero_iff.1 (by omega : r.length = 0)]; rfl
  refine wp_exit (then_x (then_x (block_x (then_n (wp_seq ?_)))))
  refine region_q hS
    (cF rfl (oM .t) r1 trivial
    (cF rfl (oN .t) r1 trivial
    Chain.nil))
    hB ?_
  clear hS; intro a w F hS
  obtain ⟨F, hS⟩ := hS.nm [4] [0] rfl rfl
  refine then_n (wp_ret ?_)
  refine ret_P hfr hS rfl (.tmp rfl .nil) (.one (.bs (by rw [← hr]; exact hend)))

end Go.Proofs.YtpjjmolibanakaaDoor
