/- Words joined. No condition beyond those that each theorem says. -/
import Derived.Test.YtjdcnjemhjldoaaDoorLx4
namespace Go.Proofs.YtjdcnjemhjldoaaDoor
open Go Go.Gm
set_option linter.unusedVariables false
set_option linter.unusedSimpArgs false
set_option maxHeartbeats 4000000
set_option maxRecDepth 8000


theorem join_ne {l : List (List UInt8)} (h : 2 ≤ l.length) : joinL l ≠ [] := by
  match l, h with
  | x :: y :: r, _ => simp [joinL]
theorem join_one {l : List (List UInt8)} (h : 0 < l.length) : nth l 0 = joinL (l.take (0 + 1)) := by
  match l, h with
  | x :: r, _ => simp [joinL, nth]

theorem sjoin_c (l : List (List UInt8)) (hn : l.length ≤ 1000000) (hs : sumL l ≤ 900000000) : FnP Tryd.prog 54 [.sl rS l, .bs [32]] (.bs (joinL l)) := by
  refine FnP.mk Tryd.func54 rfl Tryd.ntmps54 rfl ?_
  intro B a w F hB hfr hS
  refine wp_seq ?_
  refine region_seq hS (by kernel_rfl)
    (cF rfl (o_assign (.cs (by kernel_rfl)) (by rfl)) trivial trivial
    Chain.nil)
    (by kernel_rfl) (by rw [hB]; kernel_rfl) ?_
  clear hS; intro a w F hS
  obtain ⟨F, hS⟩ := hS.norm [(0, _), (1, _), (4, _)] [(0, _)] r3 r1
  refine then_n ?_
  refine wp_seq ?_
  refine wp_seq ?_
  refine region_seq hS (by kernel_rfl)
    (cF rfl (o_move .t (by rfl)) r1 trivial
    (cF rfl (o_len_sl Tryd.underlying53 .t) r1 trivial
    Chain.nil))
    (by kernel_rfl) (by rw [hB]; kernel_rfl) ?_
  clear hS; intro a w F hS
  obtain ⟨F, hS⟩ := hS.norm [(0, _), (1, _), (4, _), (12, _)] [(0, _)] r4 r1
  refine then_n ?_
  refine wp_block ?_
  refine wp_seq ?_
  refine region_seq hS (by kernel_rfl)
    (cF rfl (o_eql .t (.ci (by kernel_rfl))) r1 trivial
    (cF rfl (o_assign .t (by rfl)) r1 trivial
    Chain.nil))
    (by kernel_rfl) (by rw [hB]; kernel_rfl) ?_
  clear hS; intro a w F hS
  obtain ⟨F, hS⟩ := hS.norm [(0, _), (1, _), (4, _), (12, _), (13, _)] [(0, _)] r5 r1
  refine then_n ?_
  refine cond_b hS rfl (fun hc0 => ?_) (fun hc0 => ?_)
  ·skip
   have hr : joinL l = [] := by
     have h9 : l = [] := by simpa using hc0
     rw [h9]; rfl
   refine wp_seq ?_
   refine region_seq hS (by kernel_rfl)
     (cF rfl (o_assign (.cs (by kernel_rfl)) (by rfl)) trivial trivial
     Chain.nil)
     (by kernel_rfl) (by rw [hB]; kernel_rfl) ?_
   clear hS; intro a w F hS
   obtain ⟨F, hS⟩ := hS.norm [(0, _), (1, _), (4, _)] [(0, _)] r3 r1
   refine then_n ?_
   refine wp_ret ?_
   refine block_r ?_
   refine then_r ?_
   refine ret_P hfr hS rfl (.tmp rfl .nil) (.one (.bs (by first | exact hr.symm | rfl)))
  ·skip
   have hl0 : l ≠ [] := by intro e; rw [e] at hc0; simp at hc0
   refine wp_seq ?_
   refine region_seq hS (by kernel_rfl)
     (cF rfl (o_eql .t (.ci (by kernel_rfl))) r1 trivial
     (cF rfl (o_assign .t (by rfl)) r1 trivial
     Chain.nil))
     (by kernel_rfl) (by rw [hB]; kernel_rfl) ?_
   clear hS; intro a w F hS
   obtain ⟨F, hS⟩ := hS.norm [(0, _), (1, _), (4, _), (15, _)] [(0, _)] r4 r1
   refine then_n ?_
   refine cond_b hS rfl (fun hc1 => ?_) (fun hc1 => ?_)
   ·skip
    have hl1 : l.length = 1 := by simp at hc1; omega
    have hr : joinL l = nth l 0 := by match l, hl1 with | [x], _ => rfl
    refine wp_seq ?_
    refine region_seq hS (by kernel_rfl)
      (cF rfl (o_move .t (by rfl)) r1 trivial
      (cF rfl (o_indexAddr_sl (sz := 1) (.mk Tryd.underlying53 (by kernel_rfl)) (by intro x; rfl) .t (.ci (by kernel_rfl)) (by decide) (by simp; omega)) r1 trivial
      (cF rfl (o_load_ref (ag := false) (sz := 1) .t (by kernel_rfl) (by kernel_rfl) (by kernel_rfl)) r1 trivial
      (cF rfl (o_assign .t (by rfl)) r1 trivial
      Chain.nil))))
      (by kernel_rfl) (by rw [hB]; kernel_rfl) ?_
    clear hS; intro a w F hS
    obtain ⟨F, hS⟩ := hS.norm [(0, _), (1, _), (4, _)] [(0, _)] r3 r1
    try dsimp only [List.map, List.drop_succ_cons, List.drop_zero, List.drop_nil, List.take_succ_cons, List.take_zero, List.take_nil, ldSF] at hS
    refine then_n ?_
    refine wp_ret ?_
    refine block_r ?_
    refine then_r ?_
    refine ret_P hfr hS rfl (.tmp rfl .nil) (.one (.bs (by first | exact hr.symm | rfl)))
   ·skip
    have hl2 : 2 ≤ l.length := by have := List.length_pos_iff.2 hl0; simp at hc1; omega
    have hw1 : IntKind.wrap .i64 ((l.length : Int) - 1) = ((l.length - 1 : Nat) : Int) := by rw [wrap_i64 (by omega)]; omega
    have hsz : IntKind.wrap .i64 (0 + IntKind.wrap .i64 (1 * ((l.length - 1 : Nat) : Int))) = ((l.length - 1 + sumL (l.take 0) : Nat) : Int) := by rw [wrap_i64 (x := 1 * _) (by omega), wrap_i64 (by omega)]; simp [sumL]
    have hdl : (l.drop 1).length = l.length - 1 := by simp
    refine wp_skip ?_
    refine block_n ?_
    refine then_n ?_
    refine wp_seq ?_
    refine region_seq hS (by kernel_rfl)
      (cF rfl (o_assign (.ci (by kernel_rfl)) (by rfl)) trivial trivial
      Chain.nil)
      (by kernel_rfl) (by rw [hB]; kernel_rfl) ?_
    clear hS; intro a w F hS
    obtain ⟨F, hS⟩ := hS.norm [(0, _), (1, _), (4, _), (5, _)] [(0, _)] r4 r1
    refine then_n ?_
    refine wp_seq ?_
    refine wp_seq ?_
    refine region_seq hS (by kernel_rfl)
      (cF rfl (o_move .t (by rfl)) r1 trivial
      (cF rfl (o_len_bs Tryd.underlying9 .t) r1 trivial
      (cF rfl (o_gtr .t (.ci (by kernel_rfl))) r1 trivial
      Chain.nil)))
      (by kernel_rfl) (by rw [hB]; kernel_rfl) ?_
    clear hS; intro a w F hS
    obtain ⟨F, hS⟩ := hS.norm [(0, _), (1, _), (4, _), (5, _), (22, _)] [(0, _)] r5 r1
    refine then_n ?_
    refine cond_b hS rfl (fun hc2 => ?_) (fun hc2 => ?_)
    ·skip
     refine wp_seq ?_
     refine wp_seq ?_
     refine region_seq hS (by kernel_rfl)
       (cF rfl (o_move .t (by rfl)) r1 trivial
       (cF rfl (o_len_bs Tryd.underlying9 .t) r1 trivial
       (cF rfl (o_move .t (by rfl)) r1 trivial
       (cF rfl (o_len_sl Tryd.underlying53 .t) r1 trivial
       (cF rfl (o_sub .t (.ci (by kernel_rfl))) r1 trivial
       (cF rfl (o_quo (.ci (by kernel_rfl)) .t (by rw [hw1]; omega)) r1 trivial
       (cF rfl (o_geq .t .t) r2 trivial
       Chain.nil)))))))
       (by kernel_rfl) (by rw [hB]; kernel_rfl) ?_
     clear hS; intro a w F hS
     obtain ⟨F, hS⟩ := hS.norm [(0, _), (1, _), (4, _), (5, _), (29, _)] [(0, _)] r5 r1
     refine then_n ?_
     refine cond_b hS rfl (fun hc3 => ?_) (fun hc3 => ?_)
     ·skip
      have h9 := of_decide_eq_true hc3
      rw [hw1] at h9
      have := quo_big (k := ((l.length - 1 : Nat) : Int)) (by omega) (by omega)
      try simp only [List.length_cons, List.length_nil] at h9
      omega
     ·skip
      refine wp_skip ?_
      refine then_n ?_
      refine region_seq hS (by kernel_rfl)
        (cF rfl (o_move .t (by rfl)) r1 trivial
        (cF rfl (o_move .t (by rfl)) r1 trivial
        (cF rfl (o_len_bs Tryd.underlying9 .t) r1 trivial
        (cF rfl (o_move .t (by rfl)) r1 trivial
        (cF rfl (o_len_sl Tryd.underlying53 .t) r1 trivial
        (cF rfl (o_sub .t (.ci (by kernel_rfl))) r1 trivial
        (cF rfl (o_mul .t .t) r2 trivial
        (cF rfl (o_add .t .t) r2 trivial
        (cF rfl (o_assign .t (by rfl)) r1 trivial
        Chain.nil)))))))))
        (by kernel_rfl) (by rw [hB]; kernel_rfl) ?_
      clear hS; intro a w F hS
      obtain ⟨F, hS⟩ := hS.norm [(0, _), (1, _), (4, _), (5, _)] [(0, _)] r4 r1
      rw [hw1] at hS
      refine then_n ?_
      refine wp_seq ?_
      refine wp_seq ?_
      refine region_seq hS (by kernel_rfl)
        (cF rfl (o_move .t (by rfl)) r1 trivial
        (cF rfl (o_len_sl Tryd.underlying53 .t) r1 trivial
        (cF rfl (o_move (.ci (by kernel_rfl)) (by rfl)) trivial trivial
        Chain.nil)))
        (by kernel_rfl) (by rw [hB]; kernel_rfl) ?_
      clear hS; intro a w F hS
      obtain ⟨F, hS⟩ := hS.norm [(0, _), (1, _), (4, _), (5, _), (39, _), (40, _), (41, _)] [(0, _)] r7 r1
      refine then_n ?_
      refine wp_block ?_
      replace hS := hS.ent (i := 5) (s' := .pv (.int .i64 ((l.length - 1 + sumL (l.take 0) : Nat) : Int))) rfl (.int hsz)
      obtain ⟨F, hS⟩ := hS.norm [(0, _), (1, _), (5, _), (39, _), (40, _), (41, _)] [(0, _)] r6 r1
      refine loop_inv (σ := Nat) (fun s => (⟨[(0, .pv (.sl rS l)), (1, .pv (.bs [32])), (5, .pv (.int .i64 ((l.length - 1 + sumL (l.take s) : Nat) : Int))), (39, .pv (.sl rS l)), (40, .pv (.int .i64 (l.length : Nat))), (41, .pv (.int .i64 (s : Nat)))], [(0, frame B)]⟩ : En)) (fun s => s ≤ l.length) (fun s => l.length - s) 0 hS (Nat.zero_le _) ?_
      clear hS; intro i a w F hC hS
      try dsimp only at hC
      try dsimp only at hS
      have hi0 := hC
      have hsi := sum_le l i
      refine wp_seq ?_
      refine region_seq hS (by kernel_rfl)
        (cF rfl (o_lss .t .t) r2 trivial
        Chain.nil)
        (by kernel_rfl) (by rw [hB]; kernel_rfl) ?_
      clear hS; intro a w F hS
      obtain ⟨F, hS⟩ := hS.norm [(0, _), (1, _), (5, _), (39, _), (40, _), (41, _), (42, _)] [(0, _)] r7 r1
      refine then_n ?_
      refine wp_seq ?_
      refine cond_b hS rfl (fun hc4 => ?_) (fun hc4 => ?_)
      ·skip
       have hi : i < l.length := by simp at hc4; omega
       have hwl := len_le hi
       have hst := sum_take l i hi
       have hsi1 := sum_le l (i + 1)
       refine wp_skip ?_
       refine then_n ?_
       refine wp_seq ?_
       refine wp_block ?_
       refine wp_seq ?_
       refine region_seq hS (by kernel_rfl)
         (cF rfl (o_indexAddr_sl (sz := 1) (.mk Tryd.underlying53 (by kernel_rfl)) (by intro x; rfl) .t .t (by omega) (by omega)) r2 trivial
         (cF rfl (o_load_ref (ag := false) (sz := 1) .t (by kernel_rfl) (by kernel_rfl) (by kernel_rfl)) r1 trivial
         (cF rfl (o_assign .t (by rfl)) r1 trivial
         Chain.nil)))
         (by kernel_rfl) (by rw [hB]; kernel_rfl) ?_
       clear hS; intro a w F hS
       obtain ⟨F, hS⟩ := hS.norm [(0, _), (1, _), (5, _), (7, _), (39, _), (40, _), (41, _), (42, _), (43, _), (44, _)] [(0, _)] ⟨rfl, rfl, rfl, rfl, rfl, rfl, rfl, rfl, rfl, rfl, trivial⟩ r1
       try dsimp only [List.map, List.drop_succ_cons, List.drop_zero, List.drop_nil, List.take_succ_cons, List.take_zero, List.take_nil, ldSF] at hS
       rw [Int.toNat_natCast] at hS
       refine then_n ?_
       refine wp_seq ?_
       refine wp_seq ?_
       refine region_seq hS (by kernel_rfl)
         (cF rfl (o_move .t (by rfl)) r1 trivial
         (cF rfl (o_len_bs Tryd.underlying9 .t) r1 trivial
         (cF rfl (o_move .t (by rfl)) r1 trivial
         (cF rfl (o_sub (.ci (by kernel_rfl)) .t) r1 trivial
         (cF rfl (o_gtr .t .t) r2 trivial
         Chain.nil)))))
         (by kernel_rfl) (by rw [hB]; kernel_rfl) ?_
       clear hS; intro a w F hS
       obtain ⟨F, hS⟩ := hS.norm [(0, _), (1, _), (5, _), (7, _), (39, _), (40, _), (41, _), (42, _), (43, _), (44, _), (45, _), (46, _), (47, _), (48, _), (49, _)] [(0, _)] ⟨rfl, rfl, rfl, rfl, rfl, rfl, rfl, rfl, rfl, rfl, rfl, rfl, rfl, rfl, rfl, trivial⟩ r1
       refine then_n ?_
       refine cond_b hS rfl (fun hc5 => ?_) (fun hc5 => ?_)
       ·skip
        have h9 := of_decide_eq_true hc5
        rw [wrap_i64 (by omega)] at h9
        omega
       ·skip
        refine wp_skip ?_
        refine then_n ?_
        refine region_seq hS (by kernel_rfl)
          (cF rfl (o_move .t (by rfl)) r1 trivial
          (cF rfl (o_move .t (by rfl)) r1 trivial
          (cF rfl (o_len_bs Tryd.underlying9 .t) r1 trivial
          (cF rfl (o_add .t .t) r2 trivial
          (cF rfl (o_assign .t (by rfl)) r1 trivial
          Chain.nil)))))
          (by kernel_rfl) (by rw [hB]; kernel_rfl) ?_
        clear hS; intro a w F hS
        obtain ⟨F, hS⟩ := hS.norm [(0, _), (1, _), (5, _), (7, _), (39, _), (40, _), (41, _), (42, _), (43, _), (44, _), (45, _), (46, _), (47, _), (48, _), (49, _), (51, _), (52, _), (53, _), (54, _)] [(0, _)] ⟨rfl, rfl, rfl, rfl, rfl, rfl, rfl, rfl, rfl, rfl, rfl, rfl, rfl, rfl, rfl, rfl, rfl, rfl, rfl, trivial⟩ r1
        refine block_n ?_
        refine then_n ?_
        refine region_seq hS (by kernel_rfl)
          (cF rfl (o_add .t (.ci (by kernel_rfl))) r1 trivial
          (cF rfl (o_move .t (by rfl)) r1 trivial
          Chain.nil))
          (by kernel_rfl) (by rw [hB]; kernel_rfl) ?_
        clear hS; intro a w F hS
        obtain ⟨F, hS⟩ := hS.norm [(0, _), (1, _), (5, _), (7, _), (39, _), (40, _), (41, _), (42, _), (43, _), (44, _), (45, _), (46, _), (47, _), (48, _), (49, _), (51, _), (52, _), (53, _), (54, _), (55, _)] [(0, _)] ⟨rfl, rfl, rfl, rfl, rfl, rfl, rfl, rfl, rfl, rfl, rfl, rfl, rfl, rfl, rfl, rfl, rfl, rfl, rfl, rfl, trivial⟩ r1
        refine then_n ?_
        replace hS := hS.ent (i := 41) (s' := .pv (.int .i64 ((i + 1 : Nat) : Int))) rfl (.int (wrap_succ (by omega)))
        replace hS := hS.ent (i := 5) (s' := .pv (.int .i64 ((l.length - 1 + sumL (l.take (i + 1)) : Nat) : Int))) rfl (.int (by rw [sum_take l i hi, wrap_i64 (by omega)]; omega))
        obtain ⟨F, hS⟩ := hS.norm [(0, _), (1, _), (5, _), (39, _), (40, _), (41, _)] [(0, _)] r6 r1
        exact ⟨i + 1, F, (by omega), hS, by omega⟩
      ·skip
       have hi : i = l.length := by simp at hc4; omega
       refine wp_exit ?_
       refine then_x ?_
       refine then_x ?_
       refine block_x ?_
       refine then_n ?_
       refine wp_seq ?_
       refine region_seq hS (by kernel_rfl)
         (cF rfl (o_alloc (zs := [.pointer none, .slice none 0 0]) 101 (by kernel_rfl)) trivial trivial
         Chain.nil)
         (by kernel_rfl) (by rw [hB]; kernel_rfl) ?_
       clear hS; intro a w F hS
       replace hS := hS.sub
       obtain ⟨F, hS⟩ := hS.norm [(0, _), (1, _), (5, _), (8, _)] [(0, _), (101, _)] r4 r2
       try dsimp only [RS.sub, SF.sub, CF.sub, csub, Anc.sub, List.map, zCF] at hS
       generalize Act.tau a 8 = v8 at hS
       rw [hi, List.take_length] at hS
       obtain ⟨b, rfl⟩ := hS.shape 101 rfl
       replace hS := hS.fresh 9 rfl
       replace hS := hS.turn 9 rfl (nilRow (T := 5) (sz := 1) (R := rC))
       replace hS := hS.fresh 10 rfl
       obtain ⟨F, hS⟩ := hS.push 10 9 rfl rfl rfl (by kernel_rfl)
       obtain ⟨F, hS⟩ := hS.push 10 101 rfl rfl rfl (by kernel_rfl)
       replace hS := hS.turn 10 rfl (r' := RS.hp (bZ (.pointer (some ⟨b, 0, none⟩)) (.pointer none))) (fun _ _ _ _ h => h)
       obtain ⟨F, hS⟩ := hS.norm [(0, _), (1, _), (5, _), (8, _)] [(0, _), (10, _)] r4 r2
       refine then_n ?_
       refine wp_seq ?_
       refine region_seq hS (by kernel_rfl)
         (cF rfl (o_move .t (by rfl)) r1 trivial
         (cF rfl (o_callG1 10 (roomW b ((l.length - 1 + sumL l : Nat) : Int) (by omega) (by omega)) Tryd.func63 rfl (by kernel_rfl) (Args.two .t .t)) r2 r1
         Chain.nil))
         (by kernel_rfl) (by rw [hB]; kernel_rfl) ?_
       clear hS; intro a w F hS
       obtain ⟨F, hS⟩ := hS.norm [(0, _), (1, _), (8, _)] [(0, _), (10, _)] r3 r2
       refine then_n ?_
       refine wp_seq ?_
       refine region_seq hS (by kernel_rfl)
         (cF rfl (o_move .t (by rfl)) r1 trivial
         (cF rfl (o_indexAddr_sl (sz := 1) (.mk Tryd.underlying53 (by kernel_rfl)) (by intro x; rfl) .t (.ci (by kernel_rfl)) (by decide) (by simp; omega)) r1 trivial
         (cF rfl (o_load_ref (ag := false) (sz := 1) .t (by kernel_rfl) (by kernel_rfl) (by kernel_rfl)) r1 trivial
         (cF rfl (o_callG1 10 (writeW b [] (nth l 0) (by simp) (by have := len_le (l := l) (i := 0) (by omega); omega)) Tryd.func50 rfl (by kernel_rfl) (Args.two .t .t)) r2 r1
         Chain.nil))))
         (by kernel_rfl) (by rw [hB]; kernel_rfl) ?_
       clear hS; intro a w F hS
       obtain ⟨F, hS⟩ := hS.norm [(0, _), (1, _), (8, _)] [(0, _), (10, _)] r3 r2
       try dsimp only [List.map, List.drop_succ_cons, List.drop_zero, List.drop_nil, List.take_succ_cons, List.take_zero, List.take_nil, ldSF] at hS
       replace hS := hS.turn 10 rfl (r' := RS.hp (bW (.pointer (some ⟨b, 0, none⟩)) (joinL (l.take (0 + 1))))) (fun _ _ _ _ h => by rw [← join_one (by omega)]; exact h)
       refine then_n ?_
       refine wp_seq ?_
       refine wp_seq ?_
       refine region_seq hS (by kernel_rfl)
         (cF rfl (o_move .t (by rfl)) r1 trivial
         (cF rfl (o_slice_lo (sz := 1) (.mk Tryd.underlying53 (by kernel_rfl)) (by intro x; rfl) .t (.ci (by kernel_rfl)) (by decide) (by omega)) r1 trivial
         (cF rfl (o_len_sl Tryd.underlying53 .t) r1 trivial
         (cF rfl (o_move (.ci (by kernel_rfl)) (by rfl)) trivial trivial
         Chain.nil))))
         (by kernel_rfl) (by rw [hB]; kernel_rfl) ?_
       clear hS; intro a w F hS
       obtain ⟨F, hS⟩ := hS.norm [(1, _), (8, _), (63, _), (64, _), (65, _)] [(0, _), (10, _)] r5 r2
       refine then_n ?_
       refine wp_block ?_
       obtain ⟨F, hS⟩ := hS.norm [(1, _), (8, _), (63, _), (64, _), (65, _)] [(0, _), (10, _)] r5 r2
       refine loop_inv (σ := Nat) (fun s => (⟨[(1, .pv (.bs [32])), (8, .pv (.is (.pointer (some ⟨b, 0, none⟩)))), (63, .pv (.sl rS (l.drop 1))), (64, .pv (.int .i64 ((l.drop 1).length : Nat))), (65, .pv (.int .i64 (s : Nat)))], [(0, frame B), (10, RS.hp (bW (.pointer (some ⟨b, 0, none⟩)) (joinL (l.take (s + 1)))))]⟩ : En)) (fun s => s ≤ (l.drop 1).length) (fun s => (l.drop 1).length - s) 0 hS (Nat.zero_le _) ?_
       clear hS; intro i a w F hC hS
       try dsimp only at hC
       try dsimp only at hS
       have hi0 := hC
       have hjl := join_len (l.take (i + 1))
       have hsi := sum_le l (i + 1)
       have htl := List.length_take_le (i + 1) l
       refine wp_seq ?_
       refine region_seq hS (by kernel_rfl)
         (cF rfl (o_lss .t .t) r2 trivial
         Chain.nil)
         (by kernel_rfl) (by rw [hB]; kernel_rfl) ?_
       clear hS; intro a w F hS
       obtain ⟨F, hS⟩ := hS.norm [(1, _), (8, _), (63, _), (64, _), (65, _), (66, _)] [(0, _), (10, _)] r6 r2
       refine then_n ?_
       refine wp_seq ?_
       refine cond_b hS rfl (fun hc6 => ?_) (fun hc6 => ?_)
       ·skip
        have hi1 : i + 1 < l.length := by simp at hc6; omega
        have hwl : (nth (l.drop 1) i).length ≤ sumL l := by rw [show nth (l.drop 1) i = nth l (i + 1) by rw [nth_eq (by omega), nth_eq hi1]; simp [Nat.add_comm]]; exact len_le hi1
        refine wp_skip ?_
        refine then_n ?_
        refine wp_seq ?_
        refine wp_block ?_
        refine wp_seq ?_
        refine region_seq hS (by kernel_rfl)
          (cF rfl (o_indexAddr_sl (sz := 1) (.mk Tryd.underlying53 (by kernel_rfl)) (by intro x; rfl) .t .t (by omega) (by omega)) r2 trivial
          (cF rfl (o_load_ref (ag := false) (sz := 1) .t (by kernel_rfl) (by kernel_rfl) (by kernel_rfl)) r1 trivial
          (cF rfl (o_assign .t (by rfl)) r1 trivial
          Chain.nil)))
          (by kernel_rfl) (by rw [hB]; kernel_rfl) ?_
        clear hS; intro a w F hS
        obtain ⟨F, hS⟩ := hS.norm [(1, _), (8, _), (10, _), (63, _), (64, _), (65, _), (66, _), (67, _), (68, _)] [(0, _), (10, _)] ⟨rfl, rfl, rfl, rfl, rfl, rfl, rfl, rfl, rfl, trivial⟩ r2
        try dsimp only [List.map, List.drop_succ_cons, List.drop_zero, List.drop_nil, List.take_succ_cons, List.take_zero, List.take_nil, ldSF] at hS
        rw [Int.toNat_natCast] at hS
        refine then_n ?_
        refine wp_seq ?_
        refine region_seq hS (by kernel_rfl)
          (cF rfl (o_move .t (by rfl)) r1 trivial
          (cF rfl (o_callG1 10 (writeW b (joinL (l.take (i + 1))) [32] (by omega) (by simp)) Tryd.func50 rfl (by kernel_rfl) (Args.two .t .t)) r2 r1
          Chain.nil))
          (by kernel_rfl) (by rw [hB]; kernel_rfl) ?_
        clear hS; intro a w F hS
        obtain ⟨F, hS⟩ := hS.norm [(1, _), (8, _), (10, _), (63, _), (64, _), (65, _), (66, _), (67, _), (68, _), (69, _)] [(0, _), (10, _)] ⟨rfl, rfl, rfl, rfl, rfl, rfl, rfl, rfl, rfl, rfl, trivial⟩ r2
        refine then_n ?_
        refine region_seq hS (by kernel_rfl)
          (cF rfl (o_move .t (by rfl)) r1 trivial
          (cF rfl (o_callG1 10 (writeW b (joinL (l.take (i + 1)) ++ [32]) (nth (l.drop 1) i) (by rw [List.length_append]; simp; omega) (by omega)) Tryd.func50 rfl (by kernel_rfl) (Args.two .t .t)) r2 r1
          Chain.nil))
          (by kernel_rfl) (by rw [hB]; kernel_rfl) ?_
        clear hS; intro a w F hS
        obtain ⟨F, hS⟩ := hS.norm [(1, _), (8, _), (10, _), (63, _), (64, _), (65, _), (66, _), (67, _), (68, _), (69, _), (71, _)] [(0, _), (10, _)] ⟨rfl, rfl, rfl, rfl, rfl, rfl, rfl, rfl, rfl, rfl, rfl, trivial⟩ r2
        refine block_n ?_
        refine then_n ?_
        refine region_seq hS (by kernel_rfl)
          (cF rfl (o_add .t (.ci (by kernel_rfl))) r1 trivial
          (cF rfl (o_move .t (by rfl)) r1 trivial
          Chain.nil))
          (by kernel_rfl) (by rw [hB]; kernel_rfl) ?_
        clear hS; intro a w F hS
        obtain ⟨F, hS⟩ := hS.norm [(1, _), (8, _), (10, _), (63, _), (64, _), (65, _), (66, _), (67, _), (68, _), (69, _), (71, _), (73, _)] [(0, _), (10, _)] ⟨rfl, rfl, rfl, rfl, rfl, rfl, rfl, rfl, rfl, rfl, rfl, rfl, trivial⟩ r2
        refine then_n ?_
        rw [← join_take hi1] at hS
        replace hS := hS.ent (i := 65) (s' := .pv (.int .i64 ((i + 1 : Nat) : Int))) rfl (.int (wrap_succ (by omega)))
        obtain ⟨F, hS⟩ := hS.norm [(1, _), (8, _), (63, _), (64, _), (65, _)] [(0, _), (10, _)] r5 r2
        exact ⟨i + 1, F, (by omega), hS, by omega⟩
       ·skip
        have hi2 : i + 1 = l.length := by simp at hc6; omega
        have hfin : joinL (l.take (i + 1)) = joinL l := by rw [hi2, List.take_length]
        have hjne : joinL l ≠ [] := join_ne hl2
        rw [hfin] at hS
        refine wp_exit ?_
        refine then_x ?_
        refine then_x ?_
        refine block_x ?_
        refine then_n ?_
        refine wp_seq ?_
        refine region_seq hS (by kernel_rfl)
          (cF rfl (o_callG1 10 (stringW b (joinL l) hjne) Tryd.func51 rfl (by kernel_rfl) (Args.one .t)) r1 r1
          (cF rfl (o_assign .t (by rfl)) r1 trivial
          Chain.nil))
          (by kernel_rfl) (by rw [hB]; kernel_rfl) ?_
        clear hS; intro a w F hS
        obtain ⟨F, hS⟩ := hS.norm [(4, _)] [(0, _), (10, _)] r1 r2
        refine then_n ?_
        refine wp_ret ?_
        refine ret_P hfr hS rfl (.tmp rfl .nil) (.one (.bs (by first | exact hr.symm | rfl)))
    ·skip
     simp at hc2

theorem join_c (l : List (List UInt8)) (hn : l.length ≤ 1000000) (hs : sumL l ≤ 900000000) : FnP Tryd.prog 39 [.sl rS l] (.bs (joinL l)) := by
  refine FnP.mk Tryd.func39 rfl Tryd.ntmps39 rfl ?_
  intro B a w F hB hfr hS
  refine wp_seq ?_
  refine region_seq hS (by kernel_rfl)
    (cF rfl (o_assign (.cs (by kernel_rfl)) (by rfl)) trivial trivial
    Chain.nil)
    (by kernel_rfl) (by rw [hB]; kernel_rfl) ?_
  clear hS; intro a w F hS
  obtain ⟨F, hS⟩ := hS.norm [(0, _), (2, _)] [(0, _)] r2 r1
  refine then_n ?_
  refine wp_seq ?_
  refine region_seq hS (by kernel_rfl)
    (cF rfl (o_move .t (by rfl)) r1 trivial
    (cF rfl (o_callP (sjoin_c l hn hs) Tryd.func54 rfl (by kernel_rfl) (Args.two .t (.cs (by kernel_rfl)))) r1 trivial
    (cF rfl (o_assign .t (by rfl)) r1 trivial
    Chain.nil)))
    (by kernel_rfl) (by rw [hB]; kernel_rfl) ?_
  clear hS; intro a w F hS
  obtain ⟨F, hS⟩ := hS.norm [(2, _)] [(0, _)] r1 r1
  refine then_n ?_
  refine wp_ret ?_
  refine ret_P hfr hS rfl (.tmp rfl .nil) (.one .refl)

end Go.Proofs.YtjdcnjemhjldoaaDoor
