/- Lines, notes, words. No condition beyond those that each theorem says. -/
import Derived.Test.YtjdcnjemhjldoaaDoorLx2
namespace Go.Proofs.YtjdcnjemhjldoaaDoor
open Go Go.Gm
set_option linter.unusedVariables false
set_option linter.unusedSimpArgs false
set_option maxHeartbeats 4000000
set_option maxRecDepth 8000


def noteR (s : List UInt8) : Bool := decide (s = []) || decide (((nth s 0).toNat : Int) = 35)
theorem rune_ok {l : List UInt8} {k : Nat} (h : k < l.length) (hr : ¬ ((runeAt l k : Int) < 32 ∨ 126 < (runeAt l k : Int))) : okB (nth l k) = true ∧ nextPos l k = k + 1 := by
  by_cases ha : (nth l k).toNat < 128
  · obtain ⟨e1, e2⟩ := rune_ascii h ha
    refine ⟨?_, e2⟩
    unfold okB
    rw [e1] at hr
    simp
    omega
  · have := rune_high h (by omega)
    omega
theorem rune_bad {l : List UInt8} {k : Nat} (h : k < l.length) (hr : (runeAt l k : Int) < 32 ∨ 126 < (runeAt l k : Int)) : okB (nth l k) = false := by
  by_cases ha : (nth l k).toNat < 128
  · obtain ⟨e1, e2⟩ := rune_ascii h ha
    unfold okB
    rw [e1] at hr
    simp
    omega
  · unfold okB
    simp
    omega
theorem ne_of_lt {l : List UInt8} {k : Nat} (h : k < l.length) : l ≠ [] := by intro e; rw [e] at h; simp at h
theorem all_false {α : Type} [Inhabited α] {l : List α} {p : α → Bool} {k : Nat} (h : k < l.length) (hp : p (nth l k) = false) : l.all p = false := by
  rw [List.all_eq_false]
  exact ⟨_, nth_mem h, by rw [hp]; simp⟩
theorem all_true {α : Type} [Inhabited α] {l : List α} {p : α → Bool} (h : ∀ j, j < l.length → p (nth l j) = true) : l.all p = true := by
  rw [List.all_eq_true]
  intro x hx
  obtain ⟨j, hj, rfl⟩ := List.getElem_of_mem hx
  rw [← nth_eq hj]
  exact h j hj
theorem words_bad {s : List UInt8} {k : Nat} (h : k < s.length) (hb : okB (nth s k) = false) : wordsR s = ([], 14) := by unfold wordsR; rw [if_neg (ne_of_lt h), if_pos (all_false h hb)]
theorem words_empty {s : List UInt8} {i : Nat} (hs : s ≠ []) (hall : s.all okB = true) (h : i < (splitL 32 s).length) (he : nth (splitL 32 s) i = []) : wordsR s = ([], 14) := by unfold wordsR; rw [if_neg hs, if_neg (by rw [hall]; simp), if_pos (all_false h (by rw [he]; simp))]
theorem words_fine {s : List UInt8} (hs : s ≠ []) (hall : s.all okB = true) (h : ∀ j, j < (splitL 32 s).length → nth (splitL 32 s) j ≠ []) : wordsR s = (splitL 32 s, 0) := by unfold wordsR; rw [if_neg hs, if_neg (by rw [hall]; simp), if_neg (by rw [all_true (p := fun w => decide (w ≠ [])) (fun j hj => decide_eq_true (h j hj))]; simp)]

theorem lwords_c (s0 : List UInt8) (hs : s0.length ≤ 1000000) : FnP Tryd.prog 41 [.bs s0] (.tup [.sl rS (wordsR s0).1, .int .i64 (wordsR s0).2]) := by
  refine FnP.mk Tryd.func41 rfl Tryd.ntmps41 rfl ?_
  intro B a w F hB hfr hS
  have hl := split_len 32 s0
  have hcnt := List.count_le_length (a := 32) (l := s0)
  refine wp_seq ?_
  refine region_seq hS (by kernel_rfl)
    (cF rfl (o_assign (.c rfl) (by rfl)) trivial trivial
    (cF rfl (o_assign (.ci (by kernel_rfl)) (by rfl)) trivial trivial
    Chain.nil))
    (by kernel_rfl) (by rw [hB]; kernel_rfl) ?_
  clear hS; intro a w F hS
  obtain ⟨F, hS⟩ := hS.norm [(0, _), (2, _), (3, _)] [(0, _)] r3 r1
  refine then_n ?_
  refine wp_seq ?_
  refine wp_seq ?_
  refine region_seq hS (by kernel_rfl)
    (cF rfl (o_move .t (by rfl)) r1 trivial
    (cF rfl (o_eql_bs Tryd.underlying9 .t (.cs (by kernel_rfl))) r1 trivial
    Chain.nil))
    (by kernel_rfl) (by rw [hB]; kernel_rfl) ?_
  clear hS; intro a w F hS
  obtain ⟨F, hS⟩ := hS.norm [(0, _), (2, _), (3, _), (10, _)] [(0, _)] r4 r1
  refine then_n ?_
  refine cond_b hS rfl (fun hc0 => ?_) (fun hc0 => ?_)
  ·skip
   have hr : wordsR s0 = ([], 0) := by unfold wordsR; rw [if_pos (of_decide_eq_true hc0)]
   refine wp_seq ?_
   refine region_seq hS (by kernel_rfl)
     (cF rfl (o_assign (.c rfl) (by rfl)) trivial trivial
     (cF rfl (o_assign (.ci (by kernel_rfl)) (by rfl)) trivial trivial
     Chain.nil))
     (by kernel_rfl) (by rw [hB]; kernel_rfl) ?_
   clear hS; intro a w F hS
   obtain ⟨F, hS⟩ := hS.norm [(0, _), (2, _), (3, _)] [(0, _)] r3 r1
   refine then_n ?_
   refine wp_ret ?_
   refine then_r ?_
   refine ret_P hfr hS rfl (.tmp rfl (.tmp rfl .nil)) (.two (Ent.trans (.nilSl (R := rS)) (.sl (by rw [hr]))) (.int (by rw [hr])))
  ·skip
   have hs0 : s0 ≠ [] := of_decide_eq_false hc0
   refine wp_skip ?_
   refine then_n ?_
   refine wp_seq ?_
   refine wp_seq ?_
   refine region_seq hS (by kernel_rfl)
     (cF rfl (o_move .t (by rfl)) r1 trivial
     (cF rfl (o_range_str 101 Tryd.underlying9 .t) r1 trivial
     Chain.nil))
     (by kernel_rfl) (by rw [hB]; kernel_rfl) ?_
   clear hS; intro a w F hS
   replace hS := hS.sub
   obtain ⟨F, hS⟩ := hS.norm [(0, _), (2, _), (3, _), (12, _)] [(0, _), (101, _)] r4 r2
   try dsimp only [RS.sub, SF.sub, CF.sub, csub, Anc.sub, List.map] at hS
   generalize Act.tau a 12 = v12 at hS
   refine then_n ?_
   refine wp_block ?_
   obtain ⟨F, hS⟩ := hS.norm [(0, _), (12, _)] [(0, _), (101, _)] r2 r2
   refine loop_inv (σ := Nat) (fun s => (⟨[(0, .pv (.bs s0)), (12, .pv (.is v12))], [(0, frame B), (101, .ob (.val v12) (iterH s0 s))]⟩ : En)) (fun s => s ≤ s0.length ∧ ∀ j, j < s → okB (nth s0 j) = true) (fun s => s0.length - s) 0 hS ⟨Nat.zero_le _, fun j hj => absurd hj (Nat.not_lt_zero _)⟩ ?_
   clear hS; intro k a w F hC hS
   try dsimp only at hC
   try dsimp only at hS
   obtain ⟨hk0, hok⟩ := hC
   refine wp_seq ?_
   refine region_seq hS (by kernel_rfl)
     (cF rfl (o_next_str 101 .is) r1 r1
     (cF rfl (o_ext0 .t) r1 trivial
     Chain.nil))
     (by kernel_rfl) (by rw [hB]; kernel_rfl) ?_
   clear hS; intro a w F hS
   obtain ⟨F, hS⟩ := hS.norm [(0, _), (12, _), (13, _), (14, _)] [(0, _), (101, _)] r4 r2
   refine then_n ?_
   refine wp_seq ?_
   refine cond_b hS rfl (fun hc1 => ?_) (fun hc1 => ?_)
   ·skip
    have hk : k < s0.length := of_decide_eq_true hc1
    refine wp_skip ?_
    refine then_n ?_
    refine wp_block ?_
    refine wp_seq ?_
    refine region_seq hS (by kernel_rfl)
      (cF rfl (o_ext2 .t (by assumption)) r1 trivial
      (cF rfl (o_assign .t (by rfl)) r1 trivial
      Chain.nil))
      (by kernel_rfl) (by rw [hB]; kernel_rfl) ?_
    clear hS; intro a w F hS
    obtain ⟨F, hS⟩ := hS.norm [(0, _), (5, _), (12, _), (13, _), (14, _), (15, _)] [(0, _), (101, _)] r6 r2
    refine then_n ?_
    refine wp_seq ?_
    refine region_seq hS (by kernel_rfl)
      (cF rfl (o_move .t (by rfl)) r1 trivial
      (cF rfl (o_lss .t (.ci (by kernel_rfl))) r1 trivial
      (cF rfl (o_move .t (by rfl)) r1 trivial
      (Chain.cons (Cert.cond rfl rfl (fun h => o_move .t (by rfl))) r2 trivial
      (Chain.cons (Cert.cond rfl rfl (fun h => o_gtr (.w h) (.ci (by kernel_rfl)))) r2 trivial
      (cF rfl (o_or2 .t .t) r2 trivial
      Chain.nil))))))
      (by kernel_rfl) (by rw [hB]; kernel_rfl) ?_
    clear hS; intro a w F hS
    obtain ⟨F, hS⟩ := hS.norm [(0, _), (5, _), (12, _), (13, _), (14, _), (15, _), (16, _), (17, _), (18, _), (19, _), (20, _), (21, _)] [(0, _), (101, _)] ⟨rfl, rfl, rfl, rfl, rfl, rfl, rfl, rfl, rfl, rfl, rfl, rfl, trivial⟩ r2
    refine then_n ?_
    refine cond_b hS rfl (fun hc2 => ?_) (fun hc2 => ?_)
    ·skip
     have hr : wordsR s0 = ([], 14) := words_bad hk (rune_bad hk (by simpa using hc2))
     refine wp_seq ?_
     refine region_seq hS (by kernel_rfl)
       (cF rfl (o_assign (.c rfl) (by rfl)) trivial trivial
       (cF rfl (o_assign (.ci (by kernel_rfl)) (by rfl)) trivial trivial
       Chain.nil))
       (by kernel_rfl) (by rw [hB]; kernel_rfl) ?_
     clear hS; intro a w F hS
     obtain ⟨F, hS⟩ := hS.norm [(0, _), (2, _), (3, _), (5, _), (12, _), (13, _), (14, _), (15, _), (16, _), (17, _), (18, _), (19, _), (20, _), (21, _)] [(0, _), (101, _)] ⟨rfl, rfl, rfl, rfl, rfl, rfl, rfl, rfl, rfl, rfl, rfl, rfl, rfl, rfl, trivial⟩ r2
     refine then_n ?_
     refine wp_ret ?_
     refine block_r ?_
     refine then_r ?_
     refine block_r ?_
     refine then_r ?_
     refine ret_P hfr hS rfl (.tmp rfl (.tmp rfl .nil)) (.two (Ent.trans (.nilSl (R := rS)) (.sl (by rw [hr]))) (.int (by rw [hr])))
    ·skip
     have hok1 := rune_ok hk (by simpa using hc2)
     refine wp_skip ?_
     refine block_n ?_
     refine then_n ?_
     rw [hok1.2] at hS
     obtain ⟨F, hS⟩ := hS.norm [(0, _), (12, _)] [(0, _), (101, _)] r2 r2
     exact ⟨k + 1, F, ⟨by omega, fun j hj => (Nat.lt_or_ge j k).elim (hok j) (fun h1 => (show k = j by omega) ▸ hok1.1)⟩, hS, by omega⟩
   ·skip
    have hall : s0.all okB = true := all_true (fun j hj => hok j (by simp at hc1; omega))
    refine wp_exit ?_
    refine then_x ?_
    refine then_x ?_
    refine block_x ?_
    refine then_n ?_
    refine wp_seq ?_
    refine region_seq hS (by kernel_rfl)
      (cF rfl (o_move .t (by rfl)) r1 trivial
      (cF rfl (o_callP (split_c s0 32 hs) Tryd.func55 rfl (by kernel_rfl) (Args.two .t (.cs (by kernel_rfl)))) r1 trivial
      (cF rfl (o_assign .t (by rfl)) r1 trivial
      Chain.nil)))
      (by kernel_rfl) (by rw [hB]; kernel_rfl) ?_
    clear hS; intro a w F hS
    obtain ⟨F, hS⟩ := hS.norm [(6, _)] [(0, _), (101, _)] r1 r2
    refine then_n ?_
    refine wp_seq ?_
    refine wp_seq ?_
    refine region_seq hS (by kernel_rfl)
      (cF rfl (o_move .t (by rfl)) r1 trivial
      (cF rfl (o_len_sl Tryd.underlying53 .t) r1 trivial
      (cF rfl (o_move (.ci (by kernel_rfl)) (by rfl)) trivial trivial
      Chain.nil)))
      (by kernel_rfl) (by rw [hB]; kernel_rfl) ?_
    clear hS; intro a w F hS
    obtain ⟨F, hS⟩ := hS.norm [(6, _), (24, _), (25, _), (26, _)] [(0, _), (101, _)] r4 r2
    refine then_n ?_
    refine wp_block ?_
    obtain ⟨F, hS⟩ := hS.norm [(6, _), (24, _), (25, _), (26, _)] [(0, _)] r4 r1
    refine loop_inv (σ := Nat) (fun s => (⟨[(6, .pv (.sl rS (splitL 32 s0))), (24, .pv (.sl rS (splitL 32 s0))), (25, .pv (.int .i64 ((splitL 32 s0).length : Nat))), (26, .pv (.int .i64 (s : Nat)))], [(0, frame B)]⟩ : En)) (fun s => s ≤ (splitL 32 s0).length ∧ ∀ j, j < s → nth (splitL 32 s0) j ≠ []) (fun s => (splitL 32 s0).length - s) 0 hS ⟨Nat.zero_le _, fun j hj => absurd hj (Nat.not_lt_zero _)⟩ ?_
    clear hS; intro i a w F hC hS
    try dsimp only at hC
    try dsimp only at hS
    obtain ⟨hi0, hne⟩ := hC
    refine wp_seq ?_
    refine region_seq hS (by kernel_rfl)
      (cF rfl (o_lss .t .t) r2 trivial
      Chain.nil)
      (by kernel_rfl) (by rw [hB]; kernel_rfl) ?_
    clear hS; intro a w F hS
    obtain ⟨F, hS⟩ := hS.norm [(6, _), (24, _), (25, _), (26, _), (27, _)] [(0, _)] r5 r1
    refine then_n ?_
    refine wp_seq ?_
    refine cond_b hS rfl (fun hc3 => ?_) (fun hc3 => ?_)
    ·skip
     have hi : i < (splitL 32 s0).length := by simp at hc3; omega
     refine wp_skip ?_
     refine then_n ?_
     refine wp_seq ?_
     refine wp_block ?_
     refine wp_seq ?_
     refine region_seq hS (by kernel_rfl)
       (cF rfl (o_indexAddr_sl (sz := 1) (.mk Tryd.underlying53 (by kernel_rfl)) (by intro x; rfl) .t .t (by omega) (by omega)) r2 trivial
       (cF rfl (o_load_ref (ag := false) (sz := 1) .t (by kernel_rfl) (by kernel_rfl) (by kernel_rfl)) r1 trivial
       (cF rfl (o_assign .t (by rfl)) r1 trivial
       Chain.nil)))
       (by kernel_rfl) (by rw [hB]; kernel_rfl) ?_
     clear hS; intro a w F hS
     obtain ⟨F, hS⟩ := hS.norm [(6, _), (8, _), (24, _), (25, _), (26, _), (27, _), (28, _), (29, _)] [(0, _)] r8 r1
     try dsimp only [List.map, List.drop_succ_cons, List.drop_zero, List.drop_nil, List.take_succ_cons, List.take_zero, List.take_nil, ldSF] at hS
     rw [Int.toNat_natCast] at hS
     refine then_n ?_
     refine wp_seq ?_
     refine region_seq hS (by kernel_rfl)
       (cF rfl (o_move .t (by rfl)) r1 trivial
       (cF rfl (o_eql_bs Tryd.underlying9 .t (.cs (by kernel_rfl))) r1 trivial
       Chain.nil))
       (by kernel_rfl) (by rw [hB]; kernel_rfl) ?_
     clear hS; intro a w F hS
     obtain ⟨F, hS⟩ := hS.norm [(6, _), (8, _), (24, _), (25, _), (26, _), (27, _), (28, _), (29, _), (30, _), (31, _)] [(0, _)] ⟨rfl, rfl, rfl, rfl, rfl, rfl, rfl, rfl, rfl, rfl, trivial⟩ r1
     refine then_n ?_
     refine cond_b hS rfl (fun hc4 => ?_) (fun hc4 => ?_)
     ·skip
      have hr : wordsR s0 = ([], 14) := words_empty hs0 hall hi (of_decide_eq_true hc4)
      refine wp_seq ?_
      refine region_seq hS (by kernel_rfl)
        (cF rfl (o_assign (.c rfl) (by rfl)) trivial trivial
        (cF rfl (o_assign (.ci (by kernel_rfl)) (by rfl)) trivial trivial
        Chain.nil))
        (by kernel_rfl) (by rw [hB]; kernel_rfl) ?_
      clear hS; intro a w F hS
      obtain ⟨F, hS⟩ := hS.norm [(2, _), (3, _), (6, _), (8, _), (24, _), (25, _), (26, _), (27, _), (28, _), (29, _), (30, _), (31, _)] [(0, _)] ⟨rfl, rfl, rfl, rfl, rfl, rfl, rfl, rfl, rfl, rfl, rfl, rfl, trivial⟩ r1
      refine then_n ?_
      refine wp_ret ?_
      refine block_r ?_
      refine then_r ?_
      refine then_r ?_
      refine block_r ?_
      refine then_r ?_
      refine ret_P hfr hS rfl (.tmp rfl (.tmp rfl .nil)) (.two (Ent.trans (.nilSl (R := rS)) (.sl (by rw [hr]))) (.int (by rw [hr])))
     ·skip
      have hne1 := of_decide_eq_false hc4
      refine wp_skip ?_
      refine block_n ?_
      refine then_n ?_
      refine region_seq hS (by kernel_rfl)
        (cF rfl (o_add .t (.ci (by kernel_rfl))) r1 trivial
        (cF rfl (o_move .t (by rfl)) r1 trivial
        Chain.nil))
        (by kernel_rfl) (by rw [hB]; kernel_rfl) ?_
      clear hS; intro a w F hS
      obtain ⟨F, hS⟩ := hS.norm [(6, _), (8, _), (24, _), (25, _), (26, _), (27, _), (28, _), (29, _), (30, _), (31, _), (32, _)] [(0, _)] ⟨rfl, rfl, rfl, rfl, rfl, rfl, rfl, rfl, rfl, rfl, rfl, trivial⟩ r1
      refine then_n ?_
      replace hS := hS.ent (i := 26) (s' := .pv (.int .i64 ((i + 1 : Nat) : Int))) rfl (.int (wrap_succ (by omega)))
      obtain ⟨F, hS⟩ := hS.norm [(6, _), (24, _), (25, _), (26, _)] [(0, _)] r4 r1
      exact ⟨i + 1, F, ⟨by omega, fun j hj => (Nat.lt_or_ge j i).elim (hne j) (fun h1 => (show i = j by omega) ▸ hne1)⟩, hS, by omega⟩
    ·skip
     have hr : wordsR s0 = (splitL 32 s0, 0) := words_fine hs0 hall (fun j hj => hne j (by simp at hc3; omega))
     refine wp_exit ?_
     refine then_x ?_
     refine then_x ?_
     refine block_x ?_
     refine then_n ?_
     refine wp_seq ?_
     refine region_seq hS (by kernel_rfl)
       (cF rfl (o_move .t (by rfl)) r1 trivial
       (cF rfl (o_assign .t (by rfl)) r1 trivial
       (cF rfl (o_assign (.ci (by kernel_rfl)) (by rfl)) trivial trivial
       Chain.nil)))
       (by kernel_rfl) (by rw [hB]; kernel_rfl) ?_
     clear hS; intro a w F hS
     obtain ⟨F, hS⟩ := hS.norm [(2, _), (3, _)] [(0, _)] r2 r1
     refine then_n ?_
     refine wp_ret ?_
     refine ret_P hfr hS rfl (.tmp rfl (.tmp rfl .nil)) (.two (.sl (by rw [hr])) (.int (by rw [hr])))

end Go.Proofs.YtjdcnjemhjldoaaDoor
