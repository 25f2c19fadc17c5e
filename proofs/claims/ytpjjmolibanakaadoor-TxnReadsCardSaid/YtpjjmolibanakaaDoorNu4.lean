/- Digits. No condition beyond those that each theorem says. -/
import Derived.Test.YtpjjmolibanakaaDoorNu0
namespace Go.Proofs.YtpjjmolibanakaaDoor
open Go Go.Gm
set_option linter.unusedVariables false
set_option linter.unusedSimpArgs false
set_option maxHeartbeats 4000000
set_option maxRecDepth 8000

/-- A number's digits. -/
def digZ (u : Nat) : List Int := if h : u = 0 then [] else digZ (u / 10) ++ [((48 + u % 10 : Nat) : Int)]
  termination_by u
  decreasing_by omega
def digL (u : Nat) : List Int := digZ (u / 10) ++ [((48 + u % 10 : Nat) : Int)]
theorem digZ_0 : digZ 0 = [] := by unfold digZ; simp
theorem digZ_pos {u : Nat} (h : u ≠ 0) : digZ u = digL u := by unfold digZ digL; simp [h]
def textL (n : Int) : List UInt8 := if n < 0 then 45 :: (digL n.natAbs).map toB else (digL n.natAbs).map toB
structure DigOk (u0 i u : Nat) (l : List Int) : Prop where
  hl : l.length = 20
  hi : i ≤ 20
  hu : u < 10 ^ i
  hb : u ≤ 18446744073709551615
  ok : (i = 20 ∧ u = u0) ∨ (i < 20 ∧ digZ u ++ l.drop i = digL u0)
theorem DigOk.start {u0 : Nat} (h : u0 ≤ 18446744073709551615) : DigOk u0 20 u0 [0, 0, 0, 0, 0, 0, 0, 0, 0, 0, 0, 0, 0, 0, 0, 0, 0, 0, 0, 0] := ⟨rfl, Nat.le_refl _, by omega, h, .inl ⟨rfl, rfl⟩⟩
theorem DigOk.pos {u0 i u : Nat} {l : List Int} (h : DigOk u0 i u l) (hc : i = 20 ∨ 0 < u) : 1 ≤ i := by
  rcases hc with hc | hc
  · omega
  · rcases Nat.eq_zero_or_pos i with h0 | h0
    · have := h.hu; rw [h0] at this; omega
    · exact h0
theorem DigOk.next {u0 i u : Nat} {l : List Int} (h : DigOk u0 i u l) (hc : i = 20 ∨ 0 < u) : DigOk u0 (i - 1) (u / 10) (l.set (i - 1) ((48 + u % 10 : Nat) : Int)) := by
  have h1 := h.pos hc
  have hi := h.hi
  have hl := h.hl
  have hd : (l.set (i - 1) ((48 + u % 10 : Nat) : Int)).drop (i - 1) = ((48 + u % 10 : Nat) : Int) :: l.drop i := by
    rw [List.drop_eq_getElem_cons (by rw [List.length_set]; omega), List.getElem_set_self, show i - 1 + 1 = i by omega, List.drop_set_of_lt (by omega)]
  refine ⟨by rw [List.length_set]; exact h.hl, by omega, ?_, by have := h.hb; omega, .inr ⟨by omega, ?_⟩⟩
  · have := h.hu
    rw [show i = (i - 1) + 1 by omega, Nat.pow_succ] at this
    omega
  · rw [hd]
    have e : digZ (u / 10) ++ ((48 + u % 10 : Nat) : Int) :: l.drop i = digL u ++ l.drop i := by
      unfold digL; simp
    rw [e]
    rcases h.ok with ⟨h2, h3⟩ | ⟨h2, h3⟩
    · rw [h2, h3, List.drop_of_length_le (by omega)]; simp
    · rw [← digZ_pos (by omega)]; exact h3
theorem DigOk.done {u0 i u : Nat} {l : List Int} (h : DigOk u0 i u l) (h1 : i ≠ 20) (h2 : u = 0) : l.drop i = digL u0 := by
  rcases h.ok with ⟨h3, _⟩ | ⟨_, h3⟩
  · exact absurd h3 h1
  · rw [h2, digZ_0] at h3; simpa using h3

theorem digits_c (u : Nat) (hu : u ≤ 18446744073709551615) : FnP Tryd.prog 34 [.int .u64 (u : Int)] (.bs ((digL u).map toB)) := by
  refine FnP.mk Tryd.func34 rfl Tryd.ntmps34 rfl ?_
  intro B a w F hB hfr hS
  refine wp_seq ?_
  refine region_q hS
    (cF rfl (oN (.cs (by kernel_rfl))) trivial trivial
    Chain.nil)
    hB ?_
  clear hS; intro a w F hS
  obtain ⟨F, hS⟩ := hS.nm [2, 0] [0] rfl rfl
  refine then_n (wp_seq ?_)
  refine region_q hS
    (cF rfl (oH [.int .u8 0, .int .u8 0, .int .u8 0, .int .u8 0, .int .u8 0, .int .u8 0, .int .u8 0, .int .u8 0, .int .u8 0, .int .u8 0, .int .u8 0, .int .u8 0, .int .u8 0, .int .u8 0, .int .u8 0, .int .u8 0, .int .u8 0, .int .u8 0, .int .u8 0, .int .u8 0] 101) trivial trivial
    Chain.nil)
    hB ?_
  clear hS; intro a w F hS
  replace hS := hS.sub
  obtain ⟨F, hS⟩ := hS.nm [3, 2, 0] [101, 0] rfl rfl
  try dsimp only [RS.sub, SF.sub, CF.sub, csub, Anc.sub, List.map, zCF] at hS
  generalize Act.tau a 3 = v3 at hS
  refine then_n (wp_seq ?_)
  refine region_q hS
    (cF rfl (oN (.ci (by kernel_rfl))) trivial trivial
    Chain.nil)
    hB ?_
  clear hS; intro a w F hS
  obtain ⟨F, hS⟩ := hS.nm [4, 3, 2, 0] [101, 0] rfl rfl
  refine then_n (wp_seq (wp_block ?_))
  replace hS := hS.turn 101 rfl (r' := .ob (.val v3) (arrB 88 (fun x => PV.int .u8 x) [0, 0, 0, 0, 0, 0, 0, 0, 0, 0, 0, 0, 0, 0, 0, 0, 0, 0, 0, 0])) (fun τ w f y h => pt_arrB (f := (fun x => PV.int .u8 x)) (l := [0, 0, 0, 0, 0, 0, 0, 0, 0, 0, 0, 0, 0, 0, 0, 0, 0, 0, 0, 0]) τ w f y h)
  obtain ⟨F, hS⟩ := hS.nm [4, 3, 0] [101, 0] rfl rfl
  refine loop_inv (σ := (Nat × Nat × List Int)) (fun s => (⟨[(0, .pv (.int .u64 s.2.1)), (3, .pv (.is v3)), (4, .pv (.int .i64 s.1))], [(0, frame B), (101, .ob (.val v3) (arrB 88 (fun x => PV.int .u8 x) s.2.2))]⟩ : En)) (fun s => DigOk u s.1 s.2.1 s.2.2) (fun s => s.1) (20, u, [0, 0, 0, 0, 0, 0, 0, 0, 0, 0, 0, 0, 0, 0, 0, 0, 0, 0, 0, 0]) hS (DigOk.start hu) ?_
  clear hS; intro s a w F hC hS
  obtain ⟨i, x, l⟩ := s
  try dsimp only at hC
  try dsimp only at hS
  have hl := hC.hl
  have hi := hC.hi
  have hbx := hC.hb
  try dsimp only at hl hi hbx
  refine wp_seq (wp_seq ?_)
  refine region_q hS
    (cF rfl (oM .t) r1 trivial
    (cF rfl (o_eql .t (.ci (by kernel_rfl))) r1 trivial
    (cF rfl (oM .t) r1 trivial
    (Chain.cons (Cert.cond rfl rfl (fun h => o_move .t (by rfl))) r2 trivial
    (Chain.cons (Cert.cond rfl rfl (fun h => o_gtr (.w h) (.ci (by kernel_rfl)))) r2 trivial
    (cF rfl (o_or2 .t .t) r2 trivial
    Chain.nil))))))
    hB ?_
  clear hS; intro a w F hS
  obtain ⟨F, hS⟩ := hS.nm [10, 9, 8, 7, 6, 5, 4, 3, 0] [101, 0] rfl rfl
  refine then_n ?_
  refine cond_b hS rfl (fun hc0 => ?_) (fun hc0 => ?_)
  ·skip
   have hcc : i = 20 ∨ 0 < x := by simp only [Bool.or_eq_true, decide_eq_true_eq] at hc0; omega
   have hip := hC.pos hcc
   try dsimp only at hip
   refine wp_skip (then_n (wp_block (wp_seq ?_)))
   refine region_q hS
     (cF rfl (oM .t) r1 trivial
     (cF rfl (o_sub .t (.ci (by kernel_rfl))) r1 trivial
     (cF rfl (oN .t) r1 trivial
     Chain.nil)))
     hB ?_
   clear hS; intro a w F hS
   obtain ⟨F, hS⟩ := hS.nm [12, 11, 10, 9, 8, 7, 6, 5, 4, 3, 0] [101, 0] rfl rfl
   rw [show IntKind.wrap .i64 ((i : Int) - 1) = ((i - 1 : Nat) : Int) by rw [wrap_i64 (by omega)]; omega] at hS
   refine then_n (wp_seq ?_)
   refine region_q hS
     (cF rfl (oM .t) r1 trivial
     (cF rfl (oM .t) r1 trivial
     (cF rfl (o_rem .t (.ci (by kernel_rfl)) (by decide)) r1 trivial
     (cF rfl (o_add (.ci (by kernel_rfl)) .t) r1 trivial
     (cF rfl (o_conv Tryd.underlying5 (by kernel_rfl) .t) r1 trivial
     (cF rfl (o_indexAddr_ab (sz := 1) 101 Tryd.underlying88 (by kernel_rfl) .is .t (by omega) (by omega)) r2 r1
     (cF rfl (o_store_ab 101 .adr .t one_int (by kernel_rfl) (by rw [hl]; omega)) r2 r1
     Chain.nil)))))))
     hB ?_
   clear hS; intro a w F hS
   obtain ⟨F, hS⟩ := hS.nm [18, 17, 16, 15, 14, 13, 12, 11, 10, 9, 8, 7, 6, 5, 4, 3, 0] [101, 0] rfl rfl
   try dsimp only [List.map, stCells, xL, xM, Nat.reduceAdd, xD, xE, xT, xU, xC, xN, zCF] at hS
   rw [show 0 + ((i - 1 : Nat) : Int).toNat * 1 = i - 1 by omega] at hS
   rw [show IntKind.wrap .u8 (IntKind.wrap .u64 (48 + (x : Int).tmod 10)) = ((48 + x % 10 : Nat) : Int) by rw [u8_wrap, u64_wrap, Int.tmod_eq_emod_of_nonneg (by omega)]; omega] at hS
   refine then_n ?_
   refine region_q hS
     (cF rfl (oM .t) r1 trivial
     (cF rfl (o_quo .t (.ci (by kernel_rfl)) (by decide)) r1 trivial
     (cF rfl (oN .t) r1 trivial
     Chain.nil)))
     hB ?_
   clear hS; intro a w F hS
   obtain ⟨F, hS⟩ := hS.nm [20, 19, 18, 17, 16, 15, 14, 13, 12, 11, 10, 9, 8, 7, 6, 5, 4, 3, 0] [101, 0] rfl rfl
   refine block_n (then_n ?_)
   replace hS := hS.ent (i := 0) (s' := .pv (.int .u64 ((x / 10 : Nat) : Int))) rfl (.int (by rw [u64_wrap, Int.tdiv_eq_ediv_of_nonneg (by omega)]; omega))
   obtain ⟨F, hS⟩ := hS.nm [4, 3, 0] [101, 0] rfl rfl
   exact ⟨(i - 1, x / 10, l.set (i - 1) ((48 + x % 10 : Nat) : Int)), F, (hC.next hcc), hS, by dsimp only; omega⟩
  have hcc : i ≠ 20 ∧ x = 0 := by simp only [Bool.or_eq_false_iff, decide_eq_false_iff_not] at hc0; omega
  have hdd := hC.done hcc.1 hcc.2
  refine wp_exit (then_x (then_x (block_x (then_n (wp_seq ?_)))))
  replace hS := hS.turn 101 rfl arrB_pt
  obtain ⟨F, hS⟩ := hS.giveRef 101 3 rfl rfl (okCF_map _ _)
  rw [unCF_map] at hS
  obtain ⟨F, hS⟩ := hS.nm [10, 9, 8, 7, 6, 5, 4, 3, 0] [0] rfl rfl
  refine region_q hS
    (cF rfl (oM .t) r1 trivial
    (cF rfl (o_slice_arr (sz := 1) (R := rB) (l := l) Tryd.underlying88 (by kernel_rfl) (by intro x; rfl) hl (by decide) .t .t (by omega) (by omega)) r2 trivial
    (cF rfl (o_conv_sl_bs Tryd.underlying50 Tryd.underlying5 Tryd.underlying9 .t) r1 trivial
    (cF rfl (oN .t) r1 trivial
    Chain.nil))))
    hB ?_
  clear hS; intro a w F hS
  obtain ⟨F, hS⟩ := hS.nm [2] [0] rfl rfl
  refine then_n (wp_ret ?_)
  refine ret_P hfr hS rfl (.tmp rfl .nil) (.one (.bs (by rw [Int.toNat_natCast, hdd])))

end Go.Proofs.YtpjjmolibanakaaDoor
