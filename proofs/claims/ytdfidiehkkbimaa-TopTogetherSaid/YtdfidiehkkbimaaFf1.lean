/- Queues and stacks. No condition beyond those that each theorem says. -/
import Derived.Test.YtdfidiehkkbimaaFf0
namespace Go.Proofs.Ytdfidiehkkbimaa
open Go Go.Gm
set_option linter.unusedVariables false
set_option linter.unusedSimpArgs false
set_option maxHeartbeats 4000000
set_option maxRecDepth 8000


theorem qlist_c (b : Nat) (room : Int) (l : List Int) : FnG Try.prog 36 1 [.is (.pointer (some ⟨b, 0, none⟩))] [qH (.pointer (some ⟨b, 0, none⟩)) room l] (.sl rInt l) (fun _ => [qH (.pointer (some ⟨b, 0, none⟩)) room l]) := by
  refine FnG.mk Try.func36 rfl Try.ntmps36 rfl (by kernel_rfl) ?_
  intro B F0 a w F hB hG hS
  obtain ⟨rv, hS⟩ := hS.open_ex 1 rfl
  obtain ⟨c, hS⟩ := hS.open_ex 1 rfl
  obtain ⟨hI, hS⟩ := hS.open_and 1 rfl
  obtain ⟨F, hS⟩ := hS.peel 1 2 rfl rfl
  obtain ⟨F, hS⟩ := hS.peel 1 3 rfl rfl
  have hle := hI.le
  have hfit := hI.fits
  have hr0 := hI.r0
  have hr1 := hI.r1
  obtain ⟨F, hS⟩ := hS.nm [0] [3, 2, 0] rfl rfl
  refine wp_seq ?_
  refine region_q hS
    (cF rfl (oN (.c rfl)) trivial trivial
    Chain.nil)
    hB ?_
  clear hS; intro a w F hS
  obtain ⟨F, hS⟩ := hS.nm [2, 0] [3, 2, 0] rfl rfl
  try dsimp only [rInt] at hS
  refine then_n (wp_seq ?_)
  refine region_q hS
    (cF rfl (oN (.c rfl)) trivial trivial
    Chain.nil)
    hB ?_
  clear hS; intro a w F hS
  obtain ⟨F, hS⟩ := hS.nm [3, 2, 0] [3, 2, 0] rfl rfl
  try dsimp only [rInt] at hS
  refine then_n (wp_seq (wp_seq ?_))
  refine region_q hS
    (cF rfl (oM .t) r1 trivial
    (cF rfl (o_callR (cells := [.pv _, .pv _, .pv _, .pv _]) 2 (qlen_c room l.length _ _) (fun _ _ _ _ _ h => h) rfl Try.func88 rfl (by kernel_rfl) (ArgsLent.one .is)) r1 r1
    (cF rfl (oM (.ci (by kernel_rfl))) trivial trivial
    Chain.nil)))
    hB ?_
  clear hS; intro a w F hS
  obtain ⟨F, hS⟩ := hS.nm [7, 6, 3, 2, 0] [3, 2, 0] rfl rfl
  try dsimp only [rInt] at hS
  refine then_n (wp_block ?_)
  replace hS := hS.fresh 50 rfl
  replace hS := hS.turn 50 rfl (nilRow (T := 3) (sz := 1) (R := rInt))
  refine loop_keep (σ := (Nat) × (Value) × (List Int)) [0, 2, 6] [0, 2, 3] (fun s => [(7, .pv (.int .i64 (s.1 : Int))), (3, .pv (.is s.2.1))]) (fun s => [(50, .ob (.val s.2.1) (rowH 3 1 rInt s.2.2))]) (fun s => s.1 ≤ l.length ∧ (s.2.2 = l.take s.1)) (fun s => l.length - s.1) ((0), (.slice none 0 0), ([])) hS ⟨rfl, rfl, rfl, rfl, rfl, trivial⟩ ⟨rfl, rfl, rfl, rfl, trivial⟩ ⟨Nat.zero_le _, rfl⟩ ?_
  clear hS; intro s a w F hC hS
  obtain ⟨i, v, out⟩ := s
  try dsimp only at hC
  obtain ⟨F, hS⟩ := hS.nm [7, 6, 3, 2, 0] [50, 3, 2, 0] rfl rfl
  try dsimp only at hS
  obtain ⟨hi, hq⟩ := hC
  have hol : out.length ≤ i := by rw [hq, List.length_take]; omega
  refine wp_seq ?_
  refine region_q hS
    (cF rfl (o_lss .t .t) r2 trivial
    Chain.nil)
    hB ?_
  clear hS; intro a w F hS
  obtain ⟨F, hS⟩ := hS.nm [8, 7, 6, 3, 2, 0] [50, 3, 2, 0] rfl rfl
  try dsimp only [rInt] at hS
  refine then_n (wp_seq ?_)
  refine cond_b hS rfl (fun hc0 => ?_) (fun hc0 => ?_)
  ·skip
   have hil : i < l.length := by simp at hc0; omega
   have hil2 : i < l.length := by simp at hc0; omega
   have hnl : Go.Gm.nth c i = Go.Gm.nth l i := take_at hI.cells hil2
   refine wp_skip (then_n (wp_seq (wp_block (wp_seq ?_))))
   refine region_q hS
     (cF rfl (oM .t) r1 trivial
     (cF rfl (oN .t) r1 trivial
     Chain.nil))
     hB ?_
   clear hS; intro a w F hS
   obtain ⟨F, hS⟩ := hS.nm [9, 8, 7, 6, 4, 3, 2, 0] [50, 3, 2, 0] rfl rfl
   try dsimp only [rInt] at hS
   refine then_n ?_
   refine region_any (by kernel_rfl) hS (by kernel_rfl)
     (cF rfl (oM .t) r1 trivial
     (cF rfl (oM .t) r1 trivial
     (cF rfl (o_nilCheck 2 .is (by rfl)) r1 r1
     (cF rfl (oF 1 2 .adr) r1 r1
     (cF rfl (oL false 1 2 .adr) r1 r1
     (cF rfl (oM .t) r1 trivial
     (cF rfl (oM .t) r1 trivial
     (cF rfl (o_callRR (cells := [.pv _, .pv (.is rv), .pv _, .pv _]) 2 3 1 (qplace_c c room l.length i (hI.pow.resolve_left (by omega)) (by omega)) (fun _ _ _ _ _ h => h) rfl Try.func83 rfl (by kernel_rfl) rfl rfl (ArgsLent.two .is .t)) r2 r2
     (cF rfl (o_indexAddr_row (sz := 1) 3 (.mk Try.underlying61 (by kernel_rfl)) .is .t (by omega) (by omega) (by rfl)) r2 r1
     (cF rfl (o_load_row0 (ag := false) (sz' := 1) (sz := 1) 3 .t (by intro x; rfl) (by omega) (by kernel_rfl) (by kernel_rfl) (by kernel_rfl)) r1 r1
     (cF rfl (o_buildSliceE (sz := 1) (zs := [.int .i64 0]) (r := [(0, .tmp 19)]) (l := [_]) Try.underlying61 (by kernel_rfl) (by kernel_rfl) (by kernel_rfl) (by kernel_rfl) rfl rfl (.one rfl .t one_int (by kernel_rfl) .nil) rfl) r1 trivial
     (cF rfl (o_append (sz := 1) (bs := 8) 50 (.mk' Try.underlying61 (by kernel_rfl) (by kernel_rfl)) (by intro x; rfl) .is (.arr (l' := [_]) .t) (by simp only [List.length_cons, List.length_nil]; omega) (by decide)) ⟨rfl, rfl, trivial⟩ ⟨rfl, trivial⟩
     (cF rfl (oN .t) r1 trivial
     Chain.nil)))))))))))))
     (by kernel_rfl) (by rw [hB]; kernel_rfl) ?_
   clear hS; intro a w F hS
   replace hS := hS.sub
   obtain ⟨F, hS⟩ := hS.nm [21, 20, 19, 18, 17, 16, 15, 14, 13, 12, 11, 10, 9, 8, 7, 6, 4, 3, 2, 0] [50, 3, 2, 0] rfl rfl
   try dsimp only [RS.sub, SF.sub, CF.sub, csub, Anc.sub, List.map, stCells, xL, xM, Nat.reduceAdd, xD, xE, xT, xU, xC, xN, zCF, ldSF, rInt] at hS
   generalize Act.tau a 21 = v21 at hS
   try simp only [Int.toNat_natCast] at hS
   refine block_n (then_n ?_)
   refine region_q hS
     (cF rfl (o_add .t (.ci (by kernel_rfl))) r1 trivial
     (cF rfl (oM .t) r1 trivial
     Chain.nil))
     hB ?_
   clear hS; intro a w F hS
   obtain ⟨F, hS⟩ := hS.nm [22, 21, 20, 19, 18, 17, 16, 15, 14, 13, 12, 11, 10, 9, 8, 7, 6, 4, 3, 2, 0] [50, 3, 2, 0] rfl rfl
   try dsimp only [rInt] at hS
   refine then_n ?_
   replace hS := hS.ent (i := 7) (s' := .pv (.int .i64 ((i + 1 : Nat) : Int))) rfl (.int (wrap_succ (by omega)))
   obtain ⟨F, hS⟩ := hS.nm [6, 2, 0, 3, 7] [3, 2, 0, 50] rfl rfl
   exact ⟨((i + 1), _, _), F, ⟨by omega, (by rw [hq, hnl, take_nth hil])⟩, hS, by omega⟩
  have hil : i = l.length := by simp at hc0; omega
  refine wp_exit (then_x (then_x (block_x (then_n (wp_seq ?_)))))
  refine region_q hS
    (cF rfl (oM .t) r1 trivial
    (cF rfl (oN .t) r1 trivial
    Chain.nil))
    hB ?_
  clear hS; intro a w F hS
  obtain ⟨F, hS⟩ := hS.nm [2] [50, 3, 2, 0] rfl rfl
  try dsimp only [rInt] at hS
  refine then_n (wp_ret ?_)
  obtain ⟨F, hS⟩ := hS.give 50 2 rfl rfl
  have hS := hS.fresh 1 rfl
  obtain ⟨F, hS⟩ := hS.push 1 3 rfl rfl rfl (by kernel_rfl)
  obtain ⟨F, hS⟩ := hS.push 1 2 rfl rfl rfl (by kernel_rfl)
  have hS := hS.turn 1 rfl (r' := RS.hp (qH (.pointer (some ⟨b, 0, none⟩)) room l)) (fun _ _ _ _ h => ⟨_, _, hI, h⟩)
  refine ret_G1 hG hS rfl (.tmp rfl .nil) (.one (.sl (by rw [hq, hil, List.take_length]))) rfl

theorem qpush_c (b : Nat) (room : Int) (l : List Int) (x : Int) : FnG Try.prog 31 1 [.is (.pointer (some ⟨b, 0, none⟩)), .int .i64 x] [qH (.pointer (some ⟨b, 0, none⟩)) room l] (.int .i64 (pushW room l)) (fun _ => [qH (.pointer (some ⟨b, 0, none⟩)) room (pushL room l x)]) := by
  refine FnG.mk Try.func31 rfl Try.ntmps31 rfl (by kernel_rfl) ?_
  intro B F0 a w F hB hG hS
  obtain ⟨rv, hS⟩ := hS.open_ex 1 rfl
  obtain ⟨c, hS⟩ := hS.open_ex 1 rfl
  obtain ⟨hI, hS⟩ := hS.open_and 1 rfl
  obtain ⟨F, hS⟩ := hS.peel 1 2 rfl rfl
  obtain ⟨F, hS⟩ := hS.peel 1 3 rfl rfl
  have hle := hI.le
  have hfit := hI.fits
  have hr0 := hI.r0
  have hr1 := hI.r1
  obtain ⟨F, hS⟩ := hS.nm [1, 0] [3, 2, 0] rfl rfl
  refine wp_seq ?_
  refine region_q hS
    (cF rfl (oN (.ci (by kernel_rfl))) trivial trivial
    Chain.nil)
    hB ?_
  clear hS; intro a w F hS
  obtain ⟨F, hS⟩ := hS.nm [4, 1, 0] [3, 2, 0] rfl rfl
  try dsimp only [rInt] at hS
  refine then_n (wp_seq (wp_seq ?_))
  refine region_q hS
    (cF rfl (oM .t) r1 trivial
    (cF rfl (o_callR (cells := [.pv _, .pv _, .pv _, .pv _]) 2 (qroom_c room l.length _ _ ⟨hr0, hr1⟩ (by omega)) (fun _ _ _ _ _ h => h) rfl Try.func82 rfl (by kernel_rfl) (ArgsLent.one .is)) r1 r1
    (cF rfl (o_eql .t (.ci (by kernel_rfl))) r1 trivial
    Chain.nil)))
    hB ?_
  clear hS; intro a w F hS
  obtain ⟨F, hS⟩ := hS.nm [8, 4, 1, 0] [3, 2, 0] rfl rfl
  try dsimp only [rInt] at hS
  refine then_n ?_
  refine cond_b hS rfl (fun hc0 => ?_) (fun hc0 => ?_)
  ·skip
   have hf : room - (l.length : Int) = 0 := by simpa using hc0
   have hg : 2 = pushW room l := (if_pos hf).symm
   have hg2 : pushL room l x = l := if_pos hf
   refine wp_seq ?_
   refine region_q hS
     (cF rfl (oN (.ci (by kernel_rfl))) trivial trivial
     Chain.nil)
     hB ?_
   clear hS; intro a w F hS
   obtain ⟨F, hS⟩ := hS.nm [4, 1, 0] [3, 2, 0] rfl rfl
   try dsimp only [rInt] at hS
   refine then_n (wp_ret (then_r ?_))
   have hS := hS.fresh 1 rfl
   obtain ⟨F, hS⟩ := hS.push 1 3 rfl rfl rfl (by kernel_rfl)
   obtain ⟨F, hS⟩ := hS.push 1 2 rfl rfl rfl (by kernel_rfl)
   have hS := hS.turn 1 rfl (r' := RS.hp (qH (.pointer (some ⟨b, 0, none⟩)) room (pushL room l x))) (fun _ _ _ _ h => ⟨_, _, (by rw [hg2]; exact hI), (by rw [hg2]; exact h)⟩)
   refine ret_G1 hG hS rfl (.tmp rfl .nil) (.one (.int (by rw [hg]))) rfl
  have hf : ¬ room - (l.length : Int) = 0 := by simpa using hc0
  have hg : 0 = pushW room l := (if_neg hf).symm
  have hg2 : pushL room l x = l ++ [x] := if_neg hf
  refine wp_skip (then_n (wp_seq (wp_seq ?_)))
  refine region_any (by kernel_rfl) hS (by kernel_rfl)
    (cF rfl (oM .t) r1 trivial
    (cF rfl (o_nilCheck 2 .is (by rfl)) r1 r1
    (cF rfl (oF 3 2 .adr) r1 r1
    (cF rfl (oL false 1 2 .adr) r1 r1
    (cF rfl (oM .t) r1 trivial
    (cF rfl (o_nilCheck 2 .is (by rfl)) r1 r1
    (cF rfl (oF 1 2 .adr) r1 r1
    (cF rfl (oL false 1 2 .adr) r1 r1
    (cF rfl (o_len_row 3 Try.underlying61 .is) r1 r1
    (cF rfl (o_eql .t .t) r2 trivial
    Chain.nil))))))))))
    (by kernel_rfl) (by rw [hB]; kernel_rfl) ?_
  clear hS; intro a w F hS
  obtain ⟨F, hS⟩ := hS.nm [18, 4, 1, 0] [3, 2, 0] rfl rfl
  try dsimp only [List.map, xD, xE, xT, xU, ldSF, rInt] at hS
  refine then_n ?_
  refine cond_b hS rfl (fun hc1 => ?_) (fun hc1 => ?_)
  ·skip
   have hcl : l.length = c.length := by simp at hc1; omega
   have hp2 := grow_pow (n := c.length) (by omega) hI.pow
   rw [← hcl] at hp2
   clear hcl
   have hgl : l.length < growN l.length := by unfold growN; split <;> omega
   refine wp_seq ?_
   have hS := hS.fresh 1 rfl
   obtain ⟨F, hS⟩ := hS.push 1 3 rfl rfl rfl (by kernel_rfl)
   obtain ⟨F, hS⟩ := hS.push 1 2 rfl rfl rfl (by kernel_rfl)
   have hS := hS.turn 1 rfl (r' := RS.hp (qH (.pointer (some ⟨b, 0, none⟩)) room l)) (fun _ _ _ _ h => ⟨_, _, hI, h⟩)
   obtain ⟨F, hS⟩ := hS.nm [18, 4, 1, 0] [1, 0] rfl rfl
   refine region_q hS
     (cF rfl (oM .t) r1 trivial
     (cF rfl (o_callG1 1 (qlist_c b room l) Try.func36 rfl (by kernel_rfl) (Args.one .t)) r1 r1
     (cF rfl (oN .t) r1 trivial
     Chain.nil)))
     hB ?_
   clear hS; intro a w F hS
   obtain ⟨F, hS⟩ := hS.nm [5, 4, 1, 0] [1, 0] rfl rfl
   try dsimp only [rInt] at hS
   obtain ⟨rv, hS⟩ := hS.open_ex 1 rfl
   obtain ⟨c, hS⟩ := hS.open_ex 1 rfl
   obtain ⟨hI, hS⟩ := hS.open_and 1 rfl
   obtain ⟨F, hS⟩ := hS.peel 1 2 rfl rfl
   obtain ⟨F, hS⟩ := hS.peel 1 3 rfl rfl
   obtain ⟨F, hS⟩ := hS.nm [5, 4, 1, 0] [3, 2, 0] rfl rfl
   refine then_n (wp_seq ?_)
   refine region_q hS
     (cF rfl (oM .t) r1 trivial
     (cF rfl (oM .t) r1 trivial
     (cF rfl (oM .t) r1 trivial
     (cF rfl (o_nilCheck 2 .is (by rfl)) r1 r1
     (cF rfl (oF 3 2 .adr) r1 r1
     (cF rfl (oL false 1 2 .adr) r1 r1
     (cF rfl (o_shl .t (.ci (by kernel_rfl)) (by decide)) r1 trivial
     (cF rfl (o_max (.ci (by kernel_rfl)) .t) r1 trivial
     (cF rfl (o_makeSlice (R := rInt) (v := 0) (c := _) (sz := 1) (bs := 8) (zs := [.int .i64 0]) 101 Try.underlying61 (by kernel_rfl) (by kernel_rfl) (by kernel_rfl) (fun _ _ => ⟨⟨rfl, rfl, inR0⟩, trivial⟩) .t .t (by rw [grow_eq (by omega)]; omega) (by rw [grow_eq (by omega)]; unfold growN; split <;> omega) (by rw [grow_eq (by omega)]; unfold growN; split <;> omega)) r2 trivial
     (cF rfl (o_nilCheck 2 .is (by rfl)) r1 r1
     (cF rfl (oF 1 2 .adr) r1 r1
     (cF rfl (o_storeS 2 .adr (by kernel_rfl) (by kernel_rfl)) r2 r1
     (cF rfl (o_nilCheck 2 .is (by rfl)) r1 r1
     (cF rfl (oF 2 2 .adr) r1 r1
     (cF rfl (o_store1 2 .adr (.ci (by kernel_rfl)) one_int (by kernel_rfl) (by kernel_rfl)) r1 r1
     Chain.nil)))))))))))))))
     hB ?_
   clear hS; intro a w F hS
   replace hS := hS.sub
   obtain ⟨F, hS⟩ := hS.nm [5, 4, 1, 0] [101, 3, 2, 0] rfl rfl
   try dsimp only [RS.sub, SF.sub, CF.sub, csub, Anc.sub, List.map, stCells, xL, xM, Nat.reduceAdd, xD, xE, xT, xU, xC, xN, zCF, ldSF, rInt] at hS
   generalize Act.tau a 29 = v29 at hS
   rw [grow_eq (by omega), Int.toNat_natCast] at hS
   refine then_n ?_
   refine region_q hS
     (cF rfl (oM .t) r1 trivial
     (cF rfl (o_nilCheck 2 .is (by rfl)) r1 r1
     (cF rfl (oF 1 2 .adr) r1 r1
     (cF rfl (oL false 1 2 .adr) r1 r1
     (cF rfl (oM .t) r1 trivial
     (cF rfl (o_copy_row 101 Try.underlying61 (by kernel_rfl) (by intro x; rfl) .t .t (by rw [List.length_replicate]; unfold growN; split <;> omega)) r2 r1
     Chain.nil))))))
     hB ?_
   clear hS; intro a w F hS
   obtain ⟨F, hS⟩ := hS.nm [4, 1, 0] [101, 3, 2, 0] rfl rfl
   try dsimp only [List.map, xD, xE, xT, xU, ldSF, rInt] at hS
   obtain ⟨c2, hce⟩ : ∃ c2, c2 = l ++ (List.replicate (growN l.length) (0 : Int)).drop l.length := ⟨_, rfl⟩
   rw [← hce] at hS
   have hcl2 : c2.length = growN l.length := by rw [hce, List.length_append, List.length_drop, List.length_replicate]; omega
   have hc2 : l.length < c2.length := by rw [hcl2]; exact hgl
   have ht2 : c2.take l.length = l := by rw [hce, List.take_left]
   rw [← hcl2] at hp2
   have hP := QOk.put (x := x) hr0 hr1 (by omega) hc2 ht2 hp2
   refine then_n (wp_seq ?_)
   refine region_any (by kernel_rfl) hS (by kernel_rfl)
     (cF rfl (oM .t) r1 trivial
     (cF rfl (o_nilCheck 2 .is (by rfl)) r1 r1
     (cF rfl (oF 1 2 .adr) r1 r1
     (cF rfl (oL false 1 2 .adr) r1 r1
     (cF rfl (oM .t) r1 trivial
     (cF rfl (oM .t) r1 trivial
     (cF rfl (o_nilCheck 2 .is (by rfl)) r1 r1
     (cF rfl (oF 3 2 .adr) r1 r1
     (cF rfl (oL false 1 2 .adr) r1 r1
     (cF rfl (o_callRR (cells := [.pv _, .pv (.is v29), .pv _, .pv _]) 2 101 1 (qplace_c c2 room l.length l.length hp2 hc2) (fun _ _ _ _ _ h => h) rfl Try.func83 rfl (by kernel_rfl) rfl rfl (ArgsLent.two .is .t)) r2 r2
     (cF rfl (oM .t) r1 trivial
     (cF rfl (o_indexAddr_row (sz := 1) 101 (.mk Try.underlying61 (by kernel_rfl)) .is .t (by omega) (by omega) (by rfl)) r2 r1
     (cF rfl (o_store_row1 (R := rInt) (sz := 1) (v := x) 101 .t (by intro x; rfl) (by omega) .t rfl one_int (by kernel_rfl)) r2 r1
     Chain.nil)))))))))))))
     (by kernel_rfl) (by rw [hB]; kernel_rfl) ?_
   clear hS; intro a w F hS
   obtain ⟨F, hS⟩ := hS.nm [4, 0] [101, 3, 2, 0] rfl rfl
   try dsimp only [List.map, stCells, xL, xM, Nat.reduceAdd, xD, xE, xT, xU, xC, xN, zCF, ldSF, rInt] at hS
   try simp only [Int.toNat_natCast] at hS
   try rw [Int.toNat_natCast] at hS
   refine then_n (wp_seq ?_)
   refine region_q hS
     (cF rfl (oM .t) r1 trivial
     (cF rfl (o_nilCheck 2 .is (by rfl)) r1 r1
     (cF rfl (oF 3 2 .adr) r1 r1
     (cF rfl (oL false 1 2 .adr) r1 r1
     (cF rfl (o_add .t (.ci (by kernel_rfl))) r1 trivial
     (cF rfl (o_nilCheck 2 .is (by rfl)) r1 r1
     (cF rfl (oF 3 2 .adr) r1 r1
     (cF rfl (o_store1 2 .adr .t one_int (by kernel_rfl) (by kernel_rfl)) r2 r1
     Chain.nil))))))))
     hB ?_
   clear hS; intro a w F hS
   obtain ⟨F, hS⟩ := hS.nm [4] [101, 3, 2, 0] rfl rfl
   try dsimp only [List.map, stCells, xL, xM, Nat.reduceAdd, xD, xE, xT, xU, xC, xN, zCF, ldSF, rInt] at hS
   refine then_n (wp_seq ?_)
   refine region_q hS
     (cF rfl (oN (.ci (by kernel_rfl))) trivial trivial
     Chain.nil)
     hB ?_
   clear hS; intro a w F hS
   obtain ⟨F, hS⟩ := hS.nm [4] [101, 3, 2, 0] rfl rfl
   try dsimp only [rInt] at hS
   refine then_n (wp_ret ?_)
   rw [wrap_succ (by omega)] at hS
   have hS := hS.fresh 1 rfl
   obtain ⟨F, hS⟩ := hS.push 1 101 rfl rfl rfl (by kernel_rfl)
   obtain ⟨F, hS⟩ := hS.push 1 2 rfl rfl rfl (by kernel_rfl)
   have hS := hS.turn 1 rfl (r' := RS.hp (qH (.pointer (some ⟨b, 0, none⟩)) room (pushL room l x))) (fun _ _ _ _ h => ⟨_, _, (by rw [hg2]; exact hP), (by rw [hg2, List.length_append]; exact h)⟩)
   refine ret_G1 hG hS rfl (.tmp rfl .nil) (.one (.int (by rw [hg]))) rfl
  have hc2 : l.length < c.length := by simp at hc1; omega
  obtain ⟨c2, hce⟩ : ∃ c2, c2 = c := ⟨_, rfl⟩
  rw [← hce] at hS hc2
  have ht2 : c2.take l.length = l := by rw [hce]; exact hI.cells
  have hp2 : ∃ k, k ≤ 17 ∧ c2.length = 2 ^ k := by rw [hce] at hc2 ⊢; exact hI.pow.resolve_left (by omega)
  have hP := QOk.put (x := x) hr0 hr1 (by omega) hc2 ht2 hp2
  refine wp_skip (then_n (wp_seq ?_))
  refine region_any (by kernel_rfl) hS (by kernel_rfl)
    (cF rfl (oM .t) r1 trivial
    (cF rfl (o_nilCheck 2 .is (by rfl)) r1 r1
    (cF rfl (oF 1 2 .adr) r1 r1
    (cF rfl (oL false 1 2 .adr) r1 r1
    (cF rfl (oM .t) r1 trivial
    (cF rfl (oM .t) r1 trivial
    (cF rfl (o_nilCheck 2 .is (by rfl)) r1 r1
    (cF rfl (oF 3 2 .adr) r1 r1
    (cF rfl (oL false 1 2 .adr) r1 r1
    (cF rfl (o_callRR (cells := [.pv _, .pv (.is rv), .pv _, .pv _]) 2 3 1 (qplace_c c2 room l.length l.length hp2 hc2) (fun _ _ _ _ _ h => h) rfl Try.func83 rfl (by kernel_rfl) rfl rfl (ArgsLent.two .is .t)) r2 r2
    (cF rfl (oM .t) r1 trivial
    (cF rfl (o_indexAddr_row (sz := 1) 3 (.mk Try.underlying61 (by kernel_rfl)) .is .t (by omega) (by omega) (by rfl)) r2 r1
    (cF rfl (o_store_row1 (R := rInt) (sz := 1) (v := x) 3 .t (by intro x; rfl) (by omega) .t rfl one_int (by kernel_rfl)) r2 r1
    Chain.nil)))))))))))))
    (by kernel_rfl) (by rw [hB]; kernel_rfl) ?_
  clear hS; intro a w F hS
  obtain ⟨F, hS⟩ := hS.nm [4, 0] [3, 2, 0] rfl rfl
  try dsimp only [List.map, stCells, xL, xM, Nat.reduceAdd, xD, xE, xT, xU, xC, xN, zCF, ldSF, rInt] at hS
  try simp only [Int.toNat_natCast] at hS
  try rw [Int.toNat_natCast] at hS
  refine then_n (wp_seq ?_)
  refine region_q hS
    (cF rfl (oM .t) r1 trivial
    (cF rfl (o_nilCheck 2 .is (by rfl)) r1 r1
    (cF rfl (oF 3 2 .adr) r1 r1
    (cF rfl (oL false 1 2 .adr) r1 r1
    (cF rfl (o_add .t (.ci (by kernel_rfl))) r1 trivial
    (cF rfl (o_nilCheck 2 .is (by rfl)) r1 r1
    (cF rfl (oF 3 2 .adr) r1 r1
    (cF rfl (o_store1 2 .adr .t one_int (by kernel_rfl) (by kernel_rfl)) r2 r1
    Chain.nil))))))))
    hB ?_
  clear hS; intro a w F hS
  obtain ⟨F, hS⟩ := hS.nm [4] [3, 2, 0] rfl rfl
  try dsimp only [List.map, stCells, xL, xM, Nat.reduceAdd, xD, xE, xT, xU, xC, xN, zCF, ldSF, rInt] at hS
  refine then_n (wp_seq ?_)
  refine region_q hS
    (cF rfl (oN (.ci (by kernel_rfl))) trivial trivial
    Chain.nil)
    hB ?_
  clear hS; intro a w F hS
  obtain ⟨F, hS⟩ := hS.nm [4] [3, 2, 0] rfl rfl
  try dsimp only [rInt] at hS
  refine then_n (wp_ret ?_)
  rw [wrap_succ (by omega)] at hS
  have hS := hS.fresh 1 rfl
  obtain ⟨F, hS⟩ := hS.push 1 3 rfl rfl rfl (by kernel_rfl)
  obtain ⟨F, hS⟩ := hS.push 1 2 rfl rfl rfl (by kernel_rfl)
  have hS := hS.turn 1 rfl (r' := RS.hp (qH (.pointer (some ⟨b, 0, none⟩)) room (pushL room l x))) (fun _ _ _ _ h => ⟨_, _, (by rw [hg2]; exact hP), (by rw [hg2, List.length_append]; exact h)⟩)
  refine ret_G1 hG hS rfl (.tmp rfl .nil) (.one (.int (by rw [hg]))) rfl

theorem qnew_c (n : Int) : FnG Try.prog 26 1 [.int .i64 n] [.star []] (PV.ptr) (fun v => [qH v (within n) []]) := by
  refine FnG.mk Try.func26 rfl Try.ntmps26 rfl (by kernel_rfl) ?_
  intro B F0 a w F hB hG hS
  refine wp_seq ?_
  refine region_q hS
    (cF rfl (oN (.c rfl)) trivial trivial
    Chain.nil)
    hB ?_
  clear hS; intro a w F hS
  obtain ⟨F, hS⟩ := hS.nm [2, 0] [1, 0] rfl rfl
  try dsimp only [rInt] at hS
  refine then_n (wp_seq ?_)
  refine region_q hS
    (cF rfl (oM .t) r1 trivial
    (cF rfl (oP (within_c n) Try.func78 (Args.one .t)) r1 trivial
    (cF rfl (oB [(0, .tmp 4)] [.int .i64 0, .slice none 0 0, .int .u64 0, .int .i64 0] [(0, 1), (1, 1), (2, 1), (3, 1)] (.one rfl .t one_int (by kernel_rfl) .nil)) r1 trivial
    (cF rfl (oX 101 .t) r1 trivial
    (cF rfl (oN .t) r1 trivial
    Chain.nil)))))
    hB ?_
  clear hS; intro a w F hS
  replace hS := hS.sub
  obtain ⟨F, hS⟩ := hS.nm [2] [101, 1, 0] rfl rfl
  try dsimp only [RS.sub, SF.sub, CF.sub, csub, Anc.sub, List.map, stCells, xL, xM, Nat.reduceAdd, xD, xE, xT, xU, xC, xN, zCF, rInt] at hS
  generalize Act.tau a 6 = v6 at hS
  refine then_n (wp_ret ?_)
  obtain ⟨b, rfl⟩ := hS.shape 101 rfl
  have hS := hS.fresh 3 rfl
  have hS := hS.turn 3 rfl (nilRow (T := 3) (sz := 1) (R := rInt))
  obtain ⟨F, hS⟩ := hS.push 1 3 rfl rfl rfl (by kernel_rfl)
  obtain ⟨F, hS⟩ := hS.push 1 101 rfl rfl rfl (by kernel_rfl)
  have hS := hS.turn 1 rfl (r' := RS.hp (qH (.pointer (some ⟨b, 0, none⟩)) (within n) [])) (fun _ _ _ _ h => ⟨_, _, QOk.new n, h⟩)
  refine ret_N1 (h' := fun v => qH v (within n) []) hG hS rfl (.tmp rfl .nil) (.one .ptr) rfl

theorem stnew_c (n : Int) : FnG Try.prog 27 1 [.int .i64 n] [.star []] (PV.ptr) (fun v => [stH v (within n) []]) := by
  refine FnG.mk Try.func27 rfl Try.ntmps27 rfl (by kernel_rfl) ?_
  intro B F0 a w F hB hG hS
  refine wp_seq ?_
  refine region_q hS
    (cF rfl (oN (.c rfl)) trivial trivial
    Chain.nil)
    hB ?_
  clear hS; intro a w F hS
  obtain ⟨F, hS⟩ := hS.nm [2, 0] [1, 0] rfl rfl
  try dsimp only [rInt] at hS
  refine then_n (wp_seq ?_)
  refine region_q hS
    (cF rfl (oM .t) r1 trivial
    (cF rfl (oP (within_c n) Try.func78 (Args.one .t)) r1 trivial
    (cF rfl (oB [(1, .tmp 4)] [.slice none 0 0, .int .i64 0] [(0, 1), (1, 1)] (.one rfl .t one_int (by kernel_rfl) .nil)) r1 trivial
    (cF rfl (oX 101 .t) r1 trivial
    (cF rfl (oN .t) r1 trivial
    Chain.nil)))))
    hB ?_
  clear hS; intro a w F hS
  replace hS := hS.sub
  obtain ⟨F, hS⟩ := hS.nm [2] [101, 1, 0] rfl rfl
  try dsimp only [RS.sub, SF.sub, CF.sub, csub, Anc.sub, List.map, stCells, xL, xM, Nat.reduceAdd, xD, xE, xT, xU, xC, xN, zCF, rInt] at hS
  generalize Act.tau a 6 = v6 at hS
  refine then_n (wp_ret ?_)
  obtain ⟨b, rfl⟩ := hS.shape 101 rfl
  have hS := hS.fresh 3 rfl
  have hS := hS.turn 3 rfl (nilRow (T := 3) (sz := 1) (R := rInt))
  obtain ⟨F, hS⟩ := hS.push 1 3 rfl rfl rfl (by kernel_rfl)
  obtain ⟨F, hS⟩ := hS.push 1 101 rfl rfl rfl (by kernel_rfl)
  have hS := hS.turn 1 rfl (r' := RS.hp (stH (.pointer (some ⟨b, 0, none⟩)) (within n) [])) (fun _ _ _ _ h => ⟨_, h⟩)
  refine ret_N1 (h' := fun v => stH v (within n) []) hG hS rfl (.tmp rfl .nil) (.one .ptr) rfl

theorem stlen_c (room : Int) (l : List Int) : FnP Try.prog 86 [.ref [.sl rInt l, .int .i64 room]] (.int .i64 l.length) := by
  refine FnP.mk Try.func86 rfl Try.ntmps86 rfl ?_
  intro B a w F hB hfr hS
  refine wp_seq ?_
  refine region_q hS
    (cF rfl (oN (.ci (by kernel_rfl))) trivial trivial
    Chain.nil)
    hB ?_
  clear hS; intro a w F hS
  obtain ⟨F, hS⟩ := hS.nm [2, 0] [0] rfl rfl
  try dsimp only [rInt] at hS
  refine then_n (wp_seq (wp_seq ?_))
  refine region_q hS
    (cF rfl (oM .t) r1 trivial
    (cF rfl (o_ref_eql Try.underlying64 .t) r1 trivial
    Chain.nil))
    hB ?_
  clear hS; intro a w F hS
  obtain ⟨F, hS⟩ := hS.nm [4, 2, 0] [0] rfl rfl
  try dsimp only [rInt] at hS
  refine then_n ?_
  refine cond_b hS rfl (fun hc0 => ?_) (fun hc0 => ?_)
  ·skip
   simp at hc0
  refine wp_skip (then_n (wp_seq ?_))
  refine region_q hS
    (cF rfl (oM .t) r1 trivial
    (cF rfl (o_nilCheck_ref .t) r1 trivial
    (cF rfl (oG 0 .t) r1 trivial
    (cF rfl (oG 0 .t) r1 trivial
    (cF rfl (oR false 1 .t) r1 trivial
    (cF rfl (o_len_sl Try.underlying61 .t) r1 trivial
    (cF rfl (oN .t) r1 trivial
    Chain.nil)))))))
    hB ?_
  clear hS; intro a w F hS
  obtain ⟨F, hS⟩ := hS.nm [2] [0] rfl rfl
  try dsimp only [List.map, xD, xE, xT, xU, ldSF, rInt] at hS
  refine then_n (wp_ret ?_)
  refine ret_P hfr hS rfl (.tmp rfl .nil) (.one .refl)

theorem stroom_c (room : Int) (l : List Int) (hr : 0 ≤ room ∧ room ≤ 65536) (hn : (l.length : Int) ≤ room) : FnP Try.prog 84 [.ref [.sl rInt l, .int .i64 room]] (.int .i64 (room - l.length)) := by
  refine FnP.mk Try.func84 rfl Try.ntmps84 rfl ?_
  intro B a w F hB hfr hS
  refine wp_seq ?_
  refine region_q hS
    (cF rfl (oN (.ci (by kernel_rfl))) trivial trivial
    Chain.nil)
    hB ?_
  clear hS; intro a w F hS
  obtain ⟨F, hS⟩ := hS.nm [2, 0] [0] rfl rfl
  try dsimp only [rInt] at hS
  refine then_n (wp_seq (wp_seq ?_))
  refine region_q hS
    (cF rfl (oM .t) r1 trivial
    (cF rfl (o_ref_eql Try.underlying64 .t) r1 trivial
    Chain.nil))
    hB ?_
  clear hS; intro a w F hS
  obtain ⟨F, hS⟩ := hS.nm [4, 2, 0] [0] rfl rfl
  try dsimp only [rInt] at hS
  refine then_n ?_
  refine cond_b hS rfl (fun hc0 => ?_) (fun hc0 => ?_)
  ·skip
   simp at hc0
  refine wp_skip (then_n (wp_seq ?_))
  refine region_any (by kernel_rfl) hS (by kernel_rfl)
    (cF rfl (oM .t) r1 trivial
    (cF rfl (o_nilCheck_ref .t) r1 trivial
    (cF rfl (oG 1 .t) r1 trivial
    (cF rfl (oR false 1 .t) r1 trivial
    (cF rfl (oM .t) r1 trivial
    (cF rfl (o_nilCheck_ref .t) r1 trivial
    (cF rfl (oG 0 .t) r1 trivial
    (cF rfl (oG 0 .t) r1 trivial
    (cF rfl (oR false 1 .t) r1 trivial
    (cF rfl (o_len_sl Try.underlying61 .t) r1 trivial
    (cF rfl (o_sub .t .t) r2 trivial
    (cF rfl (oN .t) r1 trivial
    Chain.nil))))))))))))
    (by kernel_rfl) (by rw [hB]; kernel_rfl) ?_
  clear hS; intro a w F hS
  obtain ⟨F, hS⟩ := hS.nm [2] [0] rfl rfl
  try dsimp only [List.map, xD, xE, xT, xU, ldSF, rInt] at hS
  refine then_n (wp_ret ?_)
  refine ret_P hfr hS rfl (.tmp rfl .nil) (.one (.int (wrap_i64 (by omega))))

theorem pput_c (b : Nat) (room : Int) (l : List Int) (x : Int) (hl : l.length ≤ 70000) : FnG Try.prog 85 1 [.is (.pointer (some ⟨b, 0, none⟩)), .int .i64 x] [stH (.pointer (some ⟨b, 0, none⟩)) room l] (.tup []) (fun _ => [stH (.pointer (some ⟨b, 0, none⟩)) room (l ++ [x])]) := by
  refine FnG.mk Try.func85 rfl Try.ntmps85 rfl (by kernel_rfl) ?_
  intro B F0 a w F hB hG hS
  obtain ⟨rv, hS⟩ := hS.open_ex 1 rfl
  obtain ⟨F, hS⟩ := hS.peel 1 2 rfl rfl
  obtain ⟨F, hS⟩ := hS.peel 1 3 rfl rfl
  obtain ⟨F, hS⟩ := hS.nm [1, 0] [3, 2, 0] rfl rfl
  refine region_q hS
    (cF rfl (oM .t) r1 trivial
    (cF rfl (oM .t) r1 trivial
    (cF rfl (o_nilCheck 2 .is (by rfl)) r1 r1
    (cF rfl (oF 0 2 .adr) r1 r1
    (cF rfl (oL false 1 2 .adr) r1 r1
    (cF rfl (oM .t) r1 trivial
    (cF rfl (o_buildSliceE (sz := 1) (zs := [.int .i64 0]) (r := [(0, .tmp 9)]) (l := [_]) Try.underlying61 (by kernel_rfl) (by kernel_rfl) (by kernel_rfl) (by kernel_rfl) rfl rfl (.one rfl .t one_int (by kernel_rfl) .nil) rfl) r1 trivial
    (cF rfl (o_append (sz := 1) (bs := 8) 3 (.mk' Try.underlying61 (by kernel_rfl) (by kernel_rfl)) (by intro x; rfl) .is (.arr (l' := [_]) .t) (by simp only [List.length_cons, List.length_nil]; omega) (by decide)) ⟨rfl, rfl, trivial⟩ ⟨rfl, trivial⟩
    (cF rfl (o_nilCheck 2 .is (by rfl)) r1 r1
    (cF rfl (oF 0 2 .adr) r1 r1
    (cF rfl (o_storeS 2 .adr (by kernel_rfl) (by kernel_rfl)) r2 r1
    Chain.nil)))))))))))
    hB ?_
  clear hS; intro a w F hS
  replace hS := hS.sub
  obtain ⟨F, hS⟩ := hS.nm [] [3, 2, 0] rfl rfl
  try dsimp only [RS.sub, SF.sub, CF.sub, csub, Anc.sub, List.map, stCells, xL, xM, Nat.reduceAdd, xD, xE, xT, xU, xC, xN, zCF, ldSF, rInt] at hS
  generalize Act.tau a 11 = v11 at hS
  have hS := hS.fresh 1 rfl
  obtain ⟨F, hS⟩ := hS.push 1 3 rfl rfl rfl (by kernel_rfl)
  obtain ⟨F, hS⟩ := hS.push 1 2 rfl rfl rfl (by kernel_rfl)
  have hS := hS.turn 1 rfl (r' := RS.hp (stH (.pointer (some ⟨b, 0, none⟩)) room (l ++ [x]))) (fun _ _ _ _ h => ⟨_, h⟩)
  refine ret_G1 hG hS rfl .nil Tells.none rfl

theorem stpush_c (b : Nat) (room : Int) (l : List Int) (x : Int) (hr : 0 ≤ room ∧ room ≤ 65536) (hn : (l.length : Int) ≤ room) : FnG Try.prog 32 1 [.is (.pointer (some ⟨b, 0, none⟩)), .int .i64 x] [stH (.pointer (some ⟨b, 0, none⟩)) room l] (.int .i64 (pushW room l)) (fun _ => [stH (.pointer (some ⟨b, 0, none⟩)) room (pushL room l x)]) := by
  refine FnG.mk Try.func32 rfl Try.ntmps32 rfl (by kernel_rfl) ?_
  intro B F0 a w F hB hG hS
  obtain ⟨rv, hS⟩ := hS.open_ex 1 rfl
  obtain ⟨F, hS⟩ := hS.peel 1 2 rfl rfl
  obtain ⟨F, hS⟩ := hS.peel 1 3 rfl rfl
  obtain ⟨F, hS⟩ := hS.nm [1, 0] [3, 2, 0] rfl rfl
  refine wp_seq ?_
  refine region_q hS
    (cF rfl (oN (.ci (by kernel_rfl))) trivial trivial
    Chain.nil)
    hB ?_
  clear hS; intro a w F hS
  obtain ⟨F, hS⟩ := hS.nm [4, 1, 0] [3, 2, 0] rfl rfl
  try dsimp only [rInt] at hS
  refine then_n (wp_seq (wp_seq ?_))
  refine region_q hS
    (cF rfl (oM .t) r1 trivial
    (cF rfl (o_callRR (cells := [.pv (.is rv), .pv _]) 2 3 0 (stroom_c room l hr hn) (fun _ _ _ _ _ h => h) rfl Try.func84 rfl (by kernel_rfl) rfl rfl (ArgsLent.one .is)) r1 r2
    (cF rfl (o_eql .t (.ci (by kernel_rfl))) r1 trivial
    Chain.nil)))
    hB ?_
  clear hS; intro a w F hS
  obtain ⟨F, hS⟩ := hS.nm [7, 4, 1, 0] [3, 2, 0] rfl rfl
  try dsimp only [rInt] at hS
  refine then_n ?_
  refine cond_b hS rfl (fun hc0 => ?_) (fun hc0 => ?_)
  ·skip
   have hf : room - (l.length : Int) = 0 := by simpa using hc0
   have hg : 2 = pushW room l := (if_pos hf).symm
   have hg2 : pushL room l x = l := if_pos hf
   refine wp_seq ?_
   refine region_q hS
     (cF rfl (oN (.ci (by kernel_rfl))) trivial trivial
     Chain.nil)
     hB ?_
   clear hS; intro a w F hS
   obtain ⟨F, hS⟩ := hS.nm [4, 1, 0] [3, 2, 0] rfl rfl
   try dsimp only [rInt] at hS
   refine then_n (wp_ret (then_r ?_))
   have hS := hS.fresh 1 rfl
   obtain ⟨F, hS⟩ := hS.push 1 3 rfl rfl rfl (by kernel_rfl)
   obtain ⟨F, hS⟩ := hS.push 1 2 rfl rfl rfl (by kernel_rfl)
   have hS := hS.turn 1 rfl (r' := RS.hp (stH (.pointer (some ⟨b, 0, none⟩)) room (pushL room l x))) (fun _ _ _ _ h => ⟨_, (by rw [hg2]; exact h)⟩)
   refine ret_G1 hG hS rfl (.tmp rfl .nil) (.one (.int (by rw [hg]))) rfl
  have hf : ¬ room - (l.length : Int) = 0 := by simpa using hc0
  have hg : 0 = pushW room l := (if_neg hf).symm
  have hg2 : pushL room l x = l ++ [x] := if_neg hf
  refine wp_skip (then_n (wp_seq ?_))
  refine part_first 3 hS (by kernel_rfl)
    (cG rfl (oM .t) r1 trivial
    (cG rfl (o_nilCheck 2 .is (by rfl)) r1 r1
    (cG rfl (oF 0 2 .adr) r1 r1
    ChainN.nil)))
    (by kernel_rfl) (by rw [hB]; kernel_rfl) ?_
  clear hS; intro a w F hS
  obtain ⟨F, hS⟩ := hS.nm [10, 4, 1] [3, 2, 0] rfl rfl
  try dsimp only [rInt] at hS
  have hS := hS.fresh 1 rfl
  obtain ⟨F, hS⟩ := hS.push 1 3 rfl rfl rfl (by kernel_rfl)
  obtain ⟨F, hS⟩ := hS.push 1 2 rfl rfl rfl (by kernel_rfl)
  have hS := hS.turn 1 rfl (r' := RS.hp (stH (.pointer (some ⟨b, 0, none⟩)) room l)) (fun _ _ _ _ h => ⟨_, h⟩)
  obtain ⟨F, hS⟩ := hS.nm [10, 4, 1] [1, 0] rfl rfl
  refine part_last hS (by kernel_rfl)
    (cG rfl (oM .t) r1 trivial
    (cG rfl (o_callG1 1 (pput_c b room l x (by omega)) Try.func85 rfl (by kernel_rfl) (Args.two (.conv .t (Ent.adr0)) .t)) r2 r1
    ChainN.nil))
    (by kernel_rfl) (by rw [hB]; kernel_rfl) ?_
  clear hS; intro a w F hS
  obtain ⟨F, hS⟩ := hS.nm [4] [1, 0] rfl rfl
  try dsimp only [rInt] at hS
  refine then_n (wp_seq ?_)
  refine region_q hS
    (cF rfl (oN (.ci (by kernel_rfl))) trivial trivial
    Chain.nil)
    hB ?_
  clear hS; intro a w F hS
  obtain ⟨F, hS⟩ := hS.nm [4] [1, 0] rfl rfl
  try dsimp only [rInt] at hS
  refine then_n (wp_ret ?_)
  have hS := hS.turn 1 rfl (r' := RS.hp (stH (.pointer (some ⟨b, 0, none⟩)) room (pushL room l x))) (fun _ _ _ _ h => by rw [hg2]; exact h)
  refine ret_G1 hG hS rfl (.tmp rfl .nil) (.one (.int (by rw [hg]))) rfl

theorem stlist_c (b : Nat) (room : Int) (l : List Int) (hl : l.length ≤ 65536) : FnG Try.prog 34 1 [.is (.pointer (some ⟨b, 0, none⟩))] [stH (.pointer (some ⟨b, 0, none⟩)) room l] (.sl rInt l.reverse) (fun _ => [stH (.pointer (some ⟨b, 0, none⟩)) room l]) := by
  refine FnG.mk Try.func34 rfl Try.ntmps34 rfl (by kernel_rfl) ?_
  intro B F0 a w F hB hG hS
  obtain ⟨rv, hS⟩ := hS.open_ex 1 rfl
  obtain ⟨F, hS⟩ := hS.peel 1 2 rfl rfl
  obtain ⟨F, hS⟩ := hS.peel 1 3 rfl rfl
  obtain ⟨F, hS⟩ := hS.nm [0] [3, 2, 0] rfl rfl
  refine wp_seq ?_
  refine region_q hS
    (cF rfl (oN (.c rfl)) trivial trivial
    Chain.nil)
    hB ?_
  clear hS; intro a w F hS
  obtain ⟨F, hS⟩ := hS.nm [2, 0] [3, 2, 0] rfl rfl
  try dsimp only [rInt] at hS
  refine then_n (wp_seq ?_)
  refine region_q hS
    (cF rfl (oN (.c rfl)) trivial trivial
    Chain.nil)
    hB ?_
  clear hS; intro a w F hS
  obtain ⟨F, hS⟩ := hS.nm [3, 2, 0] [3, 2, 0] rfl rfl
  try dsimp only [rInt] at hS
  refine then_n (wp_seq (wp_seq ?_))
  refine region_q hS
    (cF rfl (oM .t) r1 trivial
    (cF rfl (o_callRR (cells := [.pv (.is rv), .pv _]) 2 3 0 (stlen_c room l) (fun _ _ _ _ _ h => h) rfl Try.func86 rfl (by kernel_rfl) rfl rfl (ArgsLent.one .is)) r1 r2
    (cF rfl (o_sub .t (.ci (by kernel_rfl))) r1 trivial
    (cF rfl (oN .t) r1 trivial
    Chain.nil))))
    hB ?_
  clear hS; intro a w F hS
  obtain ⟨F, hS⟩ := hS.nm [4, 3, 2, 0] [3, 2, 0] rfl rfl
  try dsimp only [rInt] at hS
  refine then_n (wp_block ?_)
  replace hS := hS.fresh 50 rfl
  replace hS := hS.turn 50 rfl (nilRow (T := 3) (sz := 1) (R := rInt))
  replace hS := hS.ent (i := 4) (s' := .pv (.int .i64 ((l.length : Int) - 1))) rfl (.int (wrap_i64 (by omega)))
  refine loop_keep (σ := Nat × Value × List Int) [0, 2] [0, 2, 3] (fun s => [(4, .pv (.int .i64 ((s.1 : Int) - 1))), (3, .pv (.is s.2.1))]) (fun s => [(50, .ob (.val s.2.1) (rowH 3 1 rInt s.2.2))]) (fun s => s.1 ≤ l.length ∧ s.2.2 = (l.drop s.1).reverse) (fun s => s.1) ((l.length), (.slice none 0 0), ([])) hS ⟨rfl, rfl, rfl, rfl, trivial⟩ ⟨rfl, rfl, rfl, rfl, trivial⟩ ⟨Nat.le_refl _, by rw [List.drop_length]; rfl⟩ ?_
  clear hS; intro s a w F hC hS
  obtain ⟨j, v, out⟩ := s
  try dsimp only at hC
  obtain ⟨F, hS⟩ := hS.nm [4, 3, 2, 0] [50, 3, 2, 0] rfl rfl
  try dsimp only at hS
  obtain ⟨hj, hq⟩ := hC
  have hol : out.length ≤ 70000 := by rw [hq, List.length_reverse, List.length_drop]; omega
  refine wp_seq (wp_seq ?_)
  refine region_q hS
    (cF rfl (oM .t) r1 trivial
    (cF rfl (o_geq .t (.ci (by kernel_rfl))) r1 trivial
    Chain.nil))
    hB ?_
  clear hS; intro a w F hS
  obtain ⟨F, hS⟩ := hS.nm [9, 8, 4, 3, 2, 0] [50, 3, 2, 0] rfl rfl
  try dsimp only [rInt] at hS
  refine then_n ?_
  refine cond_b hS rfl (fun hc0 => ?_) (fun hc0 => ?_)
  ·skip
   have hj1 : 0 ≤ (j : Int) - 1 := by simpa using hc0
   refine wp_skip (then_n (wp_seq (wp_block ?_)))
   refine region_q hS
     (cF rfl (oM .t) r1 trivial
     (cF rfl (oM .t) r1 trivial
     (cF rfl (o_nilCheck 2 .is (by rfl)) r1 r1
     (cF rfl (oF 0 2 .adr) r1 r1
     (cF rfl (oF 0 2 .adr) r1 r1
     (cF rfl (oL false 1 2 .adr) r1 r1
     (cF rfl (oM .t) r1 trivial
     (cF rfl (o_indexAddr_row (sz := 1) 3 (.mk Try.underlying61 (by kernel_rfl)) .is .t (by omega) (by omega) (by rfl)) r2 r1
     (cF rfl (o_load_row0 (ag := false) (sz' := 1) (sz := 1) 3 .t (by intro x; rfl) (by omega) (by kernel_rfl) (by kernel_rfl) (by kernel_rfl)) r1 r1
     (cF rfl (o_buildSliceE (sz := 1) (zs := [.int .i64 0]) (r := [(0, .tmp 20)]) (l := [_]) Try.underlying61 (by kernel_rfl) (by kernel_rfl) (by kernel_rfl) (by kernel_rfl) rfl rfl (.one rfl .t one_int (by kernel_rfl) .nil) rfl) r1 trivial
     (cF rfl (o_append (sz := 1) (bs := 8) 50 (.mk' Try.underlying61 (by kernel_rfl) (by kernel_rfl)) (by intro x; rfl) .is (.arr (l' := [_]) .t) (by simp only [List.length_cons, List.length_nil]; omega) (by decide)) ⟨rfl, rfl, trivial⟩ ⟨rfl, trivial⟩
     (cF rfl (oN .t) r1 trivial
     Chain.nil))))))))))))
     hB ?_
   clear hS; intro a w F hS
   replace hS := hS.sub
   obtain ⟨F, hS⟩ := hS.nm [22, 21, 20, 19, 18, 17, 16, 15, 14, 13, 12, 9, 8, 4, 3, 2, 0] [50, 3, 2, 0] rfl rfl
   try dsimp only [RS.sub, SF.sub, CF.sub, csub, Anc.sub, List.map, stCells, xL, xM, Nat.reduceAdd, xD, xE, xT, xU, xC, xN, zCF, ldSF, rInt] at hS
   generalize Act.tau a 22 = v22 at hS
   try simp only [Int.toNat_natCast] at hS
   refine block_n (then_n ?_)
   refine region_q hS
     (cF rfl (oM .t) r1 trivial
     (cF rfl (o_sub .t (.ci (by kernel_rfl))) r1 trivial
     (cF rfl (oN .t) r1 trivial
     Chain.nil)))
     hB ?_
   clear hS; intro a w F hS
   obtain ⟨F, hS⟩ := hS.nm [22, 21, 20, 19, 18, 17, 16, 15, 14, 13, 12, 11, 10, 9, 8, 4, 3, 2, 0] [50, 3, 2, 0] rfl rfl
   try dsimp only [rInt] at hS
   refine then_n ?_
   have hC2 : j - 1 ≤ l.length ∧ out ++ [Go.Gm.nth l ((j : Int) - 1).toNat] = (l.drop (j - 1)).reverse := ⟨by omega, by rw [show ((j : Int) - 1).toNat = j - 1 by omega, drop_nth (show j - 1 < l.length by omega), show j - 1 + 1 = j by omega, List.reverse_cons, ← hq]⟩
   replace hS := hS.ent (i := 4) (s' := .pv (.int .i64 (((j - 1 : Nat) : Int) - 1))) rfl (.int (by rw [wrap_i64 (by omega)]; omega))
   obtain ⟨F, hS⟩ := hS.nm [2, 0, 3, 4] [3, 2, 0, 50] rfl rfl
   exact ⟨((j - 1), _, _), F, hC2, hS, by omega⟩
  have hj1 : ¬ 0 ≤ (j : Int) - 1 := by simpa using hc0
  refine wp_exit (then_x (then_x (block_x (then_n (wp_seq ?_)))))
  refine region_q hS
    (cF rfl (oM .t) r1 trivial
    (cF rfl (oN .t) r1 trivial
    Chain.nil))
    hB ?_
  clear hS; intro a w F hS
  obtain ⟨F, hS⟩ := hS.nm [2] [50, 3, 2, 0] rfl rfl
  try dsimp only [rInt] at hS
  refine then_n (wp_ret ?_)
  obtain ⟨F, hS⟩ := hS.give 50 2 rfl rfl
  have hS := hS.fresh 1 rfl
  obtain ⟨F, hS⟩ := hS.push 1 3 rfl rfl rfl (by kernel_rfl)
  obtain ⟨F, hS⟩ := hS.push 1 2 rfl rfl rfl (by kernel_rfl)
  have hS := hS.turn 1 rfl (r' := RS.hp (stH (.pointer (some ⟨b, 0, none⟩)) room l)) (fun _ _ _ _ h => ⟨_, h⟩)
  refine ret_G1 hG hS rfl (.tmp rfl .nil) (.one (.sl (by rw [hq, show j = 0 by omega, List.drop_zero]))) rfl

end Go.Proofs.Ytdfidiehkkbimaa
