/- Words. No condition beyond those that each theorem says. -/
import Derived.Test.YtjdcnjemhjldoaaDoorNu6
namespace Go.Proofs.YtjdcnjemhjldoaaDoor
open Go Go.Gm
set_option linter.unusedVariables false
set_option linter.unusedSimpArgs false
set_option maxHeartbeats 4000000
set_option maxRecDepth 8000


def wordsTo (l : List Int) : Nat → List UInt8
  | 0 => []
  | i + 1 => wordsTo l i ++ (if 0 < i then [32] else []) ++ textL (nth l i)
def wordsL (l : List Int) : List UInt8 := wordsTo l l.length
theorem digL_ne (u : Nat) : digL u ≠ [] := by unfold digL; simp
theorem textL_ne (n : Int) : textL n ≠ [] := by
  unfold textL
  split
  · simp
  · simpa using digL_ne _
theorem textL_len {n : Int} (h : -9223372036854775808 ≤ n ∧ n ≤ 9223372036854775807) : (textL n).length ≤ 21 := by
  have := digL_len (abs_u64 h)
  unfold textL
  split <;> simp <;> omega

theorem words_c (l : List Int) (hlen : l.length ≤ 1000) : FnP Tryd.prog 37 [.sl rInt l] (.bs (wordsL l)) := by
  refine FnP.mk Tryd.func37 rfl Tryd.ntmps37 rfl ?_
  intro B a w F hB hfr hS
  refine wp_seq ?_
  refine region_seq hS (by kernel_rfl)
    (cF rfl (o_assign (.cs (by kernel_rfl)) (by rfl)) trivial trivial
    Chain.nil)
    (by kernel_rfl) (by rw [hB]; kernel_rfl) ?_
  clear hS; intro a w F hS
  obtain ⟨F, hS⟩ := hS.norm [(0, _), (2, _)] [(0, _)] r2 r1
  refine then_n ?_
  refine wp_seq ?_
  refine region_seq hS (by kernel_rfl)
    (cF rfl (o_alloc (zs := [.pointer none, .slice none 0 0]) 101 (by kernel_rfl)) trivial trivial
    Chain.nil)
    (by kernel_rfl) (by rw [hB]; kernel_rfl) ?_
  clear hS; intro a w F hS
  replace hS := hS.sub
  obtain ⟨F, hS⟩ := hS.norm [(0, _), (2, _), (3, _)] [(0, _), (101, _)] r3 r2
  try dsimp only [RS.sub, SF.sub, CF.sub, csub, Anc.sub, List.map, zCF] at hS
  generalize Act.tau a 3 = v3 at hS
  obtain ⟨b, rfl⟩ := hS.shape 101 rfl
  replace hS := hS.fresh 9 rfl
  replace hS := hS.turn 9 rfl (nilRow (T := 5) (sz := 1) (R := rC))
  replace hS := hS.fresh 10 rfl
  obtain ⟨F, hS⟩ := hS.push 10 9 rfl rfl rfl (by kernel_rfl)
  obtain ⟨F, hS⟩ := hS.push 10 101 rfl rfl rfl (by kernel_rfl)
  replace hS := hS.turn 10 rfl (r' := RS.hp (builderH (.pointer (some ⟨b, 0, none⟩)) (wordsTo l 0))) (fun _ _ _ _ h => ⟨_, .inl rfl, _, fun _ => rfl, h⟩)
  obtain ⟨F, hS⟩ := hS.norm [(0, _), (2, _), (3, _)] [(0, _), (10, _)] r3 r2
  refine then_n ?_
  refine wp_seq ?_
  refine wp_seq ?_
  refine region_seq hS (by kernel_rfl)
    (cF rfl (o_move .t (by rfl)) r1 trivial
    (cF rfl (o_len_sl Tryd.underlying40 .t) r1 trivial
    (cF rfl (o_move (.ci (by kernel_rfl)) (by rfl)) trivial trivial
    Chain.nil)))
    (by kernel_rfl) (by rw [hB]; kernel_rfl) ?_
  clear hS; intro a w F hS
  obtain ⟨F, hS⟩ := hS.norm [(2, _), (3, _), (6, _), (7, _), (8, _)] [(0, _), (10, _)] r5 r2
  refine then_n ?_
  refine wp_block ?_
  obtain ⟨F, hS⟩ := hS.norm [(3, _), (6, _), (7, _), (8, _)] [(0, _), (10, _)] r4 r2
  refine loop_inv (σ := Nat) (fun s => (⟨[(3, .pv (.is (.pointer (some ⟨b, 0, none⟩)))), (6, .pv (.sl rInt l)), (7, .pv (.int .i64 l.length)), (8, .pv (.int .i64 s))], [(0, frame B), (10, RS.hp (builderH (.pointer (some ⟨b, 0, none⟩)) (wordsTo l s)))]⟩ : En)) (fun s => s ≤ l.length ∧ (wordsTo l s).length ≤ 22 * s) (fun s => l.length - s) 0 hS ⟨Nat.zero_le _, Nat.le_refl _⟩ ?_
  clear hS; intro i a w F hC hS
  try dsimp only at hC
  try dsimp only at hS
  obtain ⟨hi, hw⟩ := hC
  refine wp_seq ?_
  refine region_seq hS (by kernel_rfl)
    (cF rfl (o_lss .t .t) r2 trivial
    Chain.nil)
    (by kernel_rfl) (by rw [hB]; kernel_rfl) ?_
  clear hS; intro a w F hS
  obtain ⟨F, hS⟩ := hS.norm [(3, _), (6, _), (7, _), (8, _), (9, _)] [(0, _), (10, _)] r5 r2
  refine then_n ?_
  refine wp_seq ?_
  refine cond_b hS rfl (fun hc0 => ?_) (fun hc0 => ?_)
  ·skip
   have hil : i < l.length := by simp at hc0; omega
   refine wp_skip ?_
   refine then_n ?_
   refine wp_seq ?_
   refine wp_block ?_
   refine wp_seq ?_
   refine region_seq hS (by kernel_rfl)
     (cF rfl (o_move .t (by rfl)) r1 trivial
     (cF rfl (o_indexAddr_sl (sz := 1) (.mk Tryd.underlying40 (by kernel_rfl)) (by intro x; rfl) .t .t (by omega) (by omega)) r2 trivial
     (cF rfl (o_load_ref (ag := false) (sz := 1) .t (by kernel_rfl) (by kernel_rfl) (by kernel_rfl)) r1 trivial
     (cF rfl (o_assign .t (by rfl)) r1 trivial
     (cF rfl (o_assign .t (by rfl)) r1 trivial
     Chain.nil)))))
     (by kernel_rfl) (by rw [hB]; kernel_rfl) ?_
   clear hS; intro a w F hS
   obtain ⟨F, hS⟩ := hS.norm [(3, _), (4, _), (5, _), (6, _), (7, _), (8, _), (9, _), (10, _), (11, _), (12, _)] [(0, _), (10, _)] ⟨rfl, rfl, rfl, rfl, rfl, rfl, rfl, rfl, rfl, rfl, trivial⟩ r2
   try dsimp only [List.map, List.drop_succ_cons, List.drop_zero, List.drop_nil, List.take_succ_cons, List.take_zero, List.take_nil, ldSF] at hS
   have hn := range_i64 (hS.range (i := 5) rfl)
   rw [Int.toNat_natCast] at hS hn
   have htl := textL_len hn
   refine then_n ?_
   refine wp_seq ?_
   refine wp_seq ?_
   refine region_seq hS (by kernel_rfl)
     (cF rfl (o_move .t (by rfl)) r1 trivial
     (cF rfl (o_gtr .t (.ci (by kernel_rfl))) r1 trivial
     Chain.nil))
     (by kernel_rfl) (by rw [hB]; kernel_rfl) ?_
   clear hS; intro a w F hS
   obtain ⟨F, hS⟩ := hS.norm [(3, _), (4, _), (5, _), (6, _), (7, _), (8, _), (9, _), (10, _), (11, _), (12, _), (13, _), (14, _)] [(0, _), (10, _)] ⟨rfl, rfl, rfl, rfl, rfl, rfl, rfl, rfl, rfl, rfl, rfl, rfl, trivial⟩ r2
   refine then_n ?_
   refine cond_b hS rfl (fun hc1 => ?_) (fun hc1 => ?_)
   ·skip
    refine region_seq hS (by kernel_rfl)
      (cF rfl (o_callG1 10 (writeByte_c b (wordsTo l i) (by omega) 32) Tryd.func52 rfl (by kernel_rfl) (Args.two .t (.ci (by kernel_rfl)))) r1 r1
      Chain.nil)
      (by kernel_rfl) (by rw [hB]; kernel_rfl) ?_
    clear hS; intro a w F hS
    obtain ⟨F, hS⟩ := hS.norm [(3, _), (4, _), (5, _), (6, _), (7, _), (8, _), (9, _), (10, _), (11, _), (12, _), (13, _), (14, _)] [(0, _), (10, _)] ⟨rfl, rfl, rfl, rfl, rfl, rfl, rfl, rfl, rfl, rfl, rfl, rfl, trivial⟩ r2
    have hi0 : 0 < i := by simp at hc1; omega
    obtain ⟨q2, hq2⟩ : ∃ q2, q2 = wordsTo l i ++ (if 0 < i then [32] else []) := ⟨_, rfl⟩
    have hql : q2.length ≤ 22 * i + 1 := by rw [hq2]; split <;> simp <;> omega
    replace hS := hS.turn 10 rfl (r' := RS.hp (builderH (.pointer (some ⟨b, 0, none⟩)) q2)) (fun _ _ _ _ h => ⟨_, .inr rfl, by rw [hq2, if_pos hi0]; exact h⟩)
    refine then_n ?_
    refine region_seq hS (by kernel_rfl)
      (cF rfl (o_move .t (by rfl)) r1 trivial
      (cF rfl (o_callP (text_c (nth l i)) Tryd.func30 rfl (by kernel_rfl) (Args.one .t)) r1 trivial
      (cF rfl (o_callG1 10 (writeString_c b q2 (by omega) (textL (nth l i)) (textL_ne _) (by have := textL_len hn; omega)) Tryd.func50 rfl (by kernel_rfl) (Args.two .t .t)) r2 r1
      Chain.nil)))
      (by kernel_rfl) (by rw [hB]; kernel_rfl) ?_
    clear hS; intro a w F hS
    obtain ⟨F, hS⟩ := hS.norm [(3, _), (4, _), (5, _), (6, _), (7, _), (8, _), (9, _), (10, _), (11, _), (12, _), (13, _), (14, _), (16, _), (17, _)] [(0, _), (10, _)] ⟨rfl, rfl, rfl, rfl, rfl, rfl, rfl, rfl, rfl, rfl, rfl, rfl, rfl, rfl, trivial⟩ r2
    refine block_n ?_
    refine then_n ?_
    refine region_seq hS (by kernel_rfl)
      (cF rfl (o_add .t (.ci (by kernel_rfl))) r1 trivial
      (cF rfl (o_move .t (by rfl)) r1 trivial
      Chain.nil))
      (by kernel_rfl) (by rw [hB]; kernel_rfl) ?_
    clear hS; intro a w F hS
    obtain ⟨F, hS⟩ := hS.norm [(3, _), (4, _), (5, _), (6, _), (7, _), (8, _), (9, _), (10, _), (11, _), (12, _), (13, _), (14, _), (16, _), (17, _), (19, _)] [(0, _), (10, _)] ⟨rfl, rfl, rfl, rfl, rfl, rfl, rfl, rfl, rfl, rfl, rfl, rfl, rfl, rfl, rfl, trivial⟩ r2
    refine then_n ?_
    replace hS := hS.turn 10 rfl (r' := RS.hp (builderH (.pointer (some ⟨b, 0, none⟩)) (wordsTo l (i + 1)))) (fun _ _ _ _ h => ⟨_, .inr rfl, by rw [wordsTo, ← hq2]; exact h⟩)
    replace hS := hS.ent (i := 8) (s' := .pv (.int .i64 ((i + 1 : Nat) : Int))) rfl (.int (wrap_succ (by omega)))
    obtain ⟨F, hS⟩ := hS.norm [(3, _), (6, _), (7, _), (8, _)] [(0, _), (10, _)] r4 r2
    exact ⟨i + 1, F, ⟨by omega, by rw [wordsTo, ← hq2, List.length_append]; omega⟩, hS, by omega⟩
   ·skip
    have hi0 : ¬ 0 < i := by simp at hc1; omega
    obtain ⟨q2, hq2⟩ : ∃ q2, q2 = wordsTo l i ++ (if 0 < i then [32] else []) := ⟨_, rfl⟩
    have hql : q2.length ≤ 22 * i + 1 := by rw [hq2]; split <;> simp <;> omega
    rw [show wordsTo l i = q2 by rw [hq2, if_neg hi0, List.append_nil]] at hS
    refine wp_skip ?_
    refine then_n ?_
    refine region_seq hS (by kernel_rfl)
      (cF rfl (o_move .t (by rfl)) r1 trivial
      (cF rfl (o_callP (text_c (nth l i)) Tryd.func30 rfl (by kernel_rfl) (Args.one .t)) r1 trivial
      (cF rfl (o_callG1 10 (writeString_c b q2 (by omega) (textL (nth l i)) (textL_ne _) (by have := textL_len hn; omega)) Tryd.func50 rfl (by kernel_rfl) (Args.two .t .t)) r2 r1
      Chain.nil)))
      (by kernel_rfl) (by rw [hB]; kernel_rfl) ?_
    clear hS; intro a w F hS
    obtain ⟨F, hS⟩ := hS.norm [(3, _), (4, _), (5, _), (6, _), (7, _), (8, _), (9, _), (10, _), (11, _), (12, _), (13, _), (14, _), (16, _), (17, _)] [(0, _), (10, _)] ⟨rfl, rfl, rfl, rfl, rfl, rfl, rfl, rfl, rfl, rfl, rfl, rfl, rfl, rfl, trivial⟩ r2
    refine block_n ?_
    refine then_n ?_
    refine region_seq hS (by kernel_rfl)
      (cF rfl (o_add .t (.ci (by kernel_rfl))) r1 trivial
      (cF rfl (o_move .t (by rfl)) r1 trivial
      Chain.nil))
      (by kernel_rfl) (by rw [hB]; kernel_rfl) ?_
    clear hS; intro a w F hS
    obtain ⟨F, hS⟩ := hS.norm [(3, _), (4, _), (5, _), (6, _), (7, _), (8, _), (9, _), (10, _), (11, _), (12, _), (13, _), (14, _), (16, _), (17, _), (19, _)] [(0, _), (10, _)] ⟨rfl, rfl, rfl, rfl, rfl, rfl, rfl, rfl, rfl, rfl, rfl, rfl, rfl, rfl, rfl, trivial⟩ r2
    refine then_n ?_
    replace hS := hS.turn 10 rfl (r' := RS.hp (builderH (.pointer (some ⟨b, 0, none⟩)) (wordsTo l (i + 1)))) (fun _ _ _ _ h => ⟨_, .inr rfl, by rw [wordsTo, ← hq2]; exact h⟩)
    replace hS := hS.ent (i := 8) (s' := .pv (.int .i64 ((i + 1 : Nat) : Int))) rfl (.int (wrap_succ (by omega)))
    obtain ⟨F, hS⟩ := hS.norm [(3, _), (6, _), (7, _), (8, _)] [(0, _), (10, _)] r4 r2
    exact ⟨i + 1, F, ⟨by omega, by rw [wordsTo, ← hq2, List.length_append]; omega⟩, hS, by omega⟩
  ·skip
   have hil : i = l.length := by simp at hc0; omega
   rw [hil] at hS
   refine wp_exit ?_
   refine then_x ?_
   refine then_x ?_
   refine block_x ?_
   refine then_n ?_
   refine wp_seq ?_
   refine region_seq hS (by kernel_rfl)
     (cF rfl (o_callG1 10 (string_c b (wordsTo l l.length)) Tryd.func51 rfl (by kernel_rfl) (Args.one .t)) r1 r1
     (cF rfl (o_assign .t (by rfl)) r1 trivial
     Chain.nil))
     (by kernel_rfl) (by rw [hB]; kernel_rfl) ?_
   clear hS; intro a w F hS
   obtain ⟨F, hS⟩ := hS.norm [(2, _)] [(0, _), (10, _)] r1 r2
   refine then_n ?_
   refine wp_ret ?_
   refine ret_P hfr hS rfl (.tmp rfl .nil) (.one (.bs rfl))

end Go.Proofs.YtjdcnjemhjldoaaDoor
