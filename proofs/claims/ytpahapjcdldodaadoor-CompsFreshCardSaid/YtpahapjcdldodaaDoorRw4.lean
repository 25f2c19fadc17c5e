/- Lists of places. No condition beyond those that each theorem says. -/
import Derived.Test.YtpahapjcdldodaaDoorRw3
namespace Go.Proofs.YtpahapjcdldodaaDoor
open Go Go.Gm
set_option linter.unusedVariables false
set_option linter.unusedSimpArgs false
set_option maxHeartbeats 4000000
set_option maxRecDepth 8000


theorem list_c (n : Nat) (x : List Int) : FnP Tryd.prog 54 [setR n x] (.sl rInt x) := by
  refine FnP.mk Tryd.func54 rfl Tryd.ntmps54 rfl ?_
  intro B a w F hB hfr hS
  have hup := Sat.setRup hS (i := 0) rfl
  have hlen := hup.2.len
  refine wp_seq ?_
  refine region_q hS
    (cF rfl (oN (.c rfl)) trivial trivial
    Chain.nil)
    hB ?_
  clear hS; intro a w F hS
  obtain ⟨F, hS⟩ := hS.nm [2, 0] [0] rfl rfl
  refine then_n (wp_seq ?_)
  refine region_q hS
    (cF rfl (oN (.c rfl)) trivial trivial
    Chain.nil)
    hB ?_
  clear hS; intro a w F hS
  obtain ⟨F, hS⟩ := hS.nm [3, 2, 0] [0] rfl rfl
  refine then_n (wp_seq (wp_seq ?_))
  refine region_q hS
    (cF rfl (oM .t) r1 trivial
    (cF rfl (oP (next_c n x 0) Tryd.func72 (Args.two .t (.ci (by kernel_rfl)))) r1 trivial
    (cF rfl (oN .t) r1 trivial
    Chain.nil)))
    hB ?_
  clear hS; intro a w F hS
  obtain ⟨F, hS⟩ := hS.nm [4, 3, 2, 0] [0] rfl rfl
  rw [nextL_first hup.2] at hS
  refine then_n (wp_block ?_)
  replace hS := hS.fresh 50 rfl
  replace hS := hS.turn 50 rfl (nilRow (T := 3) (sz := 1) (R := rInt))
  refine loop_keep (σ := Nat × Value) [0, 2] [0] (fun s => [(3, .pv (.is s.2)), (4, .pv (.int .i64 (curL x s.1)))]) (fun s => [(50, .ob (.val s.2) (rowH 3 1 rInt (x.take s.1)))]) (fun s => s.1 ≤ x.length) (fun s => x.length - s.1) ((0), (.slice none 0 0)) hS ⟨rfl, rfl, rfl, rfl, trivial⟩ ⟨rfl, rfl, trivial⟩ (Nat.zero_le _) ?_
  clear hS; intro s a w F hC hS
  obtain ⟨k, v⟩ := s
  try dsimp only at hC
  obtain ⟨F, hS⟩ := hS.nm [4, 3, 2, 0] [50, 0] rfl rfl
  try dsimp only at hS
  have hk : k ≤ x.length := hC
  refine wp_seq (wp_seq ?_)
  refine region_q hS
    (cF rfl (oM .t) r1 trivial
    (cF rfl (o_geq .t (.ci (by kernel_rfl))) r1 trivial
    Chain.nil))
    hB ?_
  clear hS; intro a w F hS
  obtain ⟨F, hS⟩ := hS.nm [8, 7, 4, 3, 2, 0] [50, 0] rfl rfl
  refine then_n ?_
  refine cond_b hS rfl (fun hc0 => ?_) (fun hc0 => ?_)
  ·skip
   have hkl : k < x.length := (curL_pos hup.2).1 (by simpa using hc0)
   rw [show curL x k = Go.Gm.nth x k from if_pos hkl] at hS
   have hxk := hup.2.2 _ (nth_mem hkl)
   refine wp_skip (then_n (wp_seq (wp_block ?_)))
   refine region_q hS
     (cF rfl (oM .t) r1 trivial
     (cF rfl (oM .t) r1 trivial
     (cF rfl (o_buildSliceE (sz := 1) (zs := [.int .i64 0]) (r := [(0, .tmp 14)]) (l := [_]) Tryd.underlying30 (by kernel_rfl) (by kernel_rfl) (by kernel_rfl) (by kernel_rfl) rfl rfl (.one rfl .t one_int (by kernel_rfl) .nil) rfl) r1 trivial
     (cF rfl (o_append (sz := 1) (bs := 8) 50 (.mk' Tryd.underlying30 (by kernel_rfl) (by kernel_rfl)) (by intro x; rfl) .is (.arr (l' := [Go.Gm.nth x k]) .t) (by simp only [List.length_take, List.length_cons, List.length_nil]; omega) (by decide)) ⟨rfl, rfl, trivial⟩ ⟨rfl, trivial⟩
     (cF rfl (oN .t) r1 trivial
     Chain.nil)))))
     hB ?_
   clear hS; intro a w F hS
   replace hS := hS.sub
   obtain ⟨F, hS⟩ := hS.nm [16, 15, 14, 13, 8, 7, 4, 3, 2, 0] [50, 0] rfl rfl
   try dsimp only [RS.sub, SF.sub, CF.sub, csub, Anc.sub, List.map, stCells, xL, xM, Nat.reduceAdd, xD, xE, xT, xU, xC, xN, zCF] at hS
   generalize Act.tau a 16 = v16 at hS
   refine block_n (then_n ?_)
   refine region_q hS
     (cF rfl (oM .t) r1 trivial
     (cF rfl (oM .t) r1 trivial
     (cF rfl (o_add .t (.ci (by kernel_rfl))) r1 trivial
     (cF rfl (oP (next_c n x _) Tryd.func72 (Args.two .t .t)) r2 trivial
     (cF rfl (oN .t) r1 trivial
     Chain.nil)))))
     hB ?_
   clear hS; intro a w F hS
   obtain ⟨F, hS⟩ := hS.nm [16, 15, 14, 13, 12, 11, 10, 9, 8, 7, 4, 3, 2, 0] [50, 0] rfl rfl
   rw [wrap_i64 (by omega), nextL_step hup.2 hkl] at hS
   refine then_n ?_
   rw [take_next hkl] at hS
   obtain ⟨F, hS⟩ := hS.nm [2, 0, 4, 3] [0, 50] rfl rfl
   exact ⟨((k + 1), _), F, (by show k + 1 ≤ x.length; omega), hS, (by show x.length - (k + 1) < x.length - k; omega)⟩
  have hkl : k = x.length := by have := (not_congr (curL_pos hup.2)).1 (by simpa using hc0); omega
  rw [hkl, List.take_length] at hS
  refine wp_exit (then_x (then_x (block_x (then_n (wp_seq ?_)))))
  refine region_q hS
    (cF rfl (oM .t) r1 trivial
    (cF rfl (oN .t) r1 trivial
    Chain.nil))
    hB ?_
  clear hS; intro a w F hS
  obtain ⟨F, hS⟩ := hS.nm [2] [50, 0] rfl rfl
  refine then_n (wp_ret ?_)
  obtain ⟨F, hS⟩ := hS.give 50 2 rfl rfl
  refine ret_P hfr hS rfl (.tmp rfl .nil) (.one (.sl rfl))

theorem listG_c (b n : Nat) (x : List Int) : FnG Tryd.prog 54 1 [.is (.pointer (some ⟨b, 0, none⟩))] [setH (.pointer (some ⟨b, 0, none⟩)) n x] (.sl rInt x) (fun _ => [setH (.pointer (some ⟨b, 0, none⟩)) n x]) := by
  refine FnG.mk Tryd.func54 rfl Tryd.ntmps54 rfl (by kernel_rfl) ?_
  intro B F0 a w F hB hG hS
  have hup := Sat.setHup hS (i := 1) rfl
  have hlen := hup.2.len
  refine wp_seq ?_
  refine region_q hS
    (cF rfl (oN (.c rfl)) trivial trivial
    Chain.nil)
    hB ?_
  clear hS; intro a w F hS
  obtain ⟨F, hS⟩ := hS.nm [2, 0] [1, 0] rfl rfl
  refine then_n (wp_seq ?_)
  refine region_q hS
    (cF rfl (oN (.c rfl)) trivial trivial
    Chain.nil)
    hB ?_
  clear hS; intro a w F hS
  obtain ⟨F, hS⟩ := hS.nm [3, 2, 0] [1, 0] rfl rfl
  refine then_n (wp_seq (wp_seq ?_))
  refine region_q hS
    (cF rfl (oM .t) r1 trivial
    (cF rfl (OpC.lend 1 [5] setH_lend (oP (next_c n x 0) Tryd.func72 (Args.two .t (.ci (by kernel_rfl)))) ⟨rfl, trivial⟩ (.pv (fun _ _ _ _ h => h)) trivial (by rfl)) r1 r1
    (cF rfl (oN .t) r1 trivial
    Chain.nil)))
    hB ?_
  clear hS; intro a w F hS
  obtain ⟨F, hS⟩ := hS.nm [4, 3, 2, 0] [1, 0] rfl rfl
  rw [nextL_first hup.2] at hS
  refine then_n (wp_block ?_)
  replace hS := hS.fresh 50 rfl
  replace hS := hS.turn 50 rfl (nilRow (T := 3) (sz := 1) (R := rInt))
  refine loop_keep (σ := Nat × Value) [0, 2] [0, 1] (fun s => [(3, .pv (.is s.2)), (4, .pv (.int .i64 (curL x s.1)))]) (fun s => [(50, .ob (.val s.2) (rowH 3 1 rInt (x.take s.1)))]) (fun s => s.1 ≤ x.length) (fun s => x.length - s.1) ((0), (.slice none 0 0)) hS ⟨rfl, rfl, rfl, rfl, trivial⟩ ⟨rfl, rfl, rfl, trivial⟩ (Nat.zero_le _) ?_
  clear hS; intro s a w F hC hS
  obtain ⟨k, v⟩ := s
  try dsimp only at hC
  obtain ⟨F, hS⟩ := hS.nm [4, 3, 2, 0] [50, 1, 0] rfl rfl
  try dsimp only at hS
  have hk : k ≤ x.length := hC
  refine wp_seq (wp_seq ?_)
  refine region_q hS
    (cF rfl (oM .t) r1 trivial
    (cF rfl (o_geq .t (.ci (by kernel_rfl))) r1 trivial
    Chain.nil))
    hB ?_
  clear hS; intro a w F hS
  obtain ⟨F, hS⟩ := hS.nm [8, 7, 4, 3, 2, 0] [50, 1, 0] rfl rfl
  refine then_n ?_
  refine cond_b hS rfl (fun hc0 => ?_) (fun hc0 => ?_)
  ·skip
   have hkl : k < x.length := (curL_pos hup.2).1 (by simpa using hc0)
   rw [show curL x k = Go.Gm.nth x k from if_pos hkl] at hS
   have hxk := hup.2.2 _ (nth_mem hkl)
   refine wp_skip (then_n (wp_seq (wp_block ?_)))
   refine region_q hS
     (cF rfl (oM .t) r1 trivial
     (cF rfl (oM .t) r1 trivial
     (cF rfl (o_buildSliceE (sz := 1) (zs := [.int .i64 0]) (r := [(0, .tmp 14)]) (l := [_]) Tryd.underlying30 (by kernel_rfl) (by kernel_rfl) (by kernel_rfl) (by kernel_rfl) rfl rfl (.one rfl .t one_int (by kernel_rfl) .nil) rfl) r1 trivial
     (cF rfl (o_append (sz := 1) (bs := 8) 50 (.mk' Tryd.underlying30 (by kernel_rfl) (by kernel_rfl)) (by intro x; rfl) .is (.arr (l' := [Go.Gm.nth x k]) .t) (by simp only [List.length_take, List.length_cons, List.length_nil]; omega) (by decide)) ⟨rfl, rfl, trivial⟩ ⟨rfl, trivial⟩
     (cF rfl (oN .t) r1 trivial
     Chain.nil)))))
     hB ?_
   clear hS; intro a w F hS
   replace hS := hS.sub
   obtain ⟨F, hS⟩ := hS.nm [16, 15, 14, 13, 8, 7, 4, 3, 2, 0] [50, 1, 0] rfl rfl
   try dsimp only [RS.sub, SF.sub, CF.sub, csub, Anc.sub, List.map, stCells, xL, xM, Nat.reduceAdd, xD, xE, xT, xU, xC, xN, zCF] at hS
   generalize Act.tau a 16 = v16 at hS
   refine block_n (then_n ?_)
   refine region_q hS
     (cF rfl (oM .t) r1 trivial
     (cF rfl (oM .t) r1 trivial
     (cF rfl (o_add .t (.ci (by kernel_rfl))) r1 trivial
     (cF rfl (OpC.lend 1 [9] setH_lend (oP (next_c n x _) Tryd.func72 (Args.two .t .t)) ⟨rfl, trivial, trivial⟩ (.pv (fun _ _ _ _ h => h)) trivial (by rfl)) r2 r1
     (cF rfl (oN .t) r1 trivial
     Chain.nil)))))
     hB ?_
   clear hS; intro a w F hS
   obtain ⟨F, hS⟩ := hS.nm [16, 15, 14, 13, 12, 11, 10, 9, 8, 7, 4, 3, 2, 0] [50, 1, 0] rfl rfl
   rw [wrap_i64 (by omega), nextL_step hup.2 hkl] at hS
   refine then_n ?_
   rw [take_next hkl] at hS
   obtain ⟨F, hS⟩ := hS.nm [2, 0, 4, 3] [1, 0, 50] rfl rfl
   exact ⟨((k + 1), _), F, (by show k + 1 ≤ x.length; omega), hS, (by show x.length - (k + 1) < x.length - k; omega)⟩
  have hkl : k = x.length := by have := (not_congr (curL_pos hup.2)).1 (by simpa using hc0); omega
  rw [hkl, List.take_length] at hS
  refine wp_exit (then_x (then_x (block_x (then_n (wp_seq ?_)))))
  refine region_q hS
    (cF rfl (oM .t) r1 trivial
    (cF rfl (oN .t) r1 trivial
    Chain.nil))
    hB ?_
  clear hS; intro a w F hS
  obtain ⟨F, hS⟩ := hS.nm [2] [50, 1, 0] rfl rfl
  refine then_n (wp_ret ?_)
  obtain ⟨F, hS⟩ := hS.give 50 2 rfl rfl
  refine ret_G1 hG hS rfl (.tmp rfl .nil) (.one (.sl rfl)) rfl

theorem setS_c (b n : Nat) (x : List Int) (i : Int) (on : Bool) : FnG Tryd.prog 46 1 [.is (.pointer (some ⟨b, 0, none⟩)), .int .i64 i, .bool on] [setH (.pointer (some ⟨b, 0, none⟩)) n x] (.bool (!decide (x = putL x n i on))) (fun _ => [setH (.pointer (some ⟨b, 0, none⟩)) n (putL x n i on)]) := FnG.ofWords fun ws hs => ⟨_, hs.set i on, by rw [← hs.setB]; exact set_c b n ws i on⟩
theorem newS_c (m : Int) : FnG Tryd.prog 41 1 [.int .i64 m] [gH tabP tabV] PV.ptr (fun v => [setH v (rowN m) []]) := FnG.newSet (IsSet.zero m) (rnew_c m)
theorem ofS_c (m : Int) (l : List Int) (hl : l.length ≤ 1000000) : FnG Tryd.prog 79 1 [.int .i64 m, .sl rInt l] [gH tabP tabV] PV.ptr (fun v => [setH v (rowN m) (ofL m l)]) := FnG.newSet (IsSet.of m l) (of_c m l hl)

end Go.Proofs.YtpahapjcdldodaaDoor
