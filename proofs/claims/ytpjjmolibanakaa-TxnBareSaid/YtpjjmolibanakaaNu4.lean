/- Digits. No condition beyond those that each theorem says. -/
import Derived.Test.YtpjjmolibanakaaNu0
namespace Go.Proofs.Ytpjjmolibanakaa
open Go Go.Gm
set_option linter.unusedVariables false
set_option linter.unusedSimpArgs false
set_option maxHeartbeats 4000000
set_option maxRecDepth 8000


/-- A number's digits. -/
def digZ (u : Nat) : List Int := if h : u = 0 then [] else digZ (u / 10) ++ [((48 + u % 10 : Nat) : Int)]
  termination_by u
  decreasing_by omega
def digL (u : Nat) : List Int := digZ (u / 10) ++ [((48 + u % 10 : Nat) : Int)]
theorem digZ_0 : digZ 0 = [] := by unfold digZ; simp
theorem digZ_pos {u : Nat} (h : u ≠ 0) : digZ u = digL u := by unfold digZ digL; simp [h]
def textL (n : Int) : List UInt8 := if n < 0 then 45 :: (digL n.natAbs).map toB else (digL n.natAbs).map toB
structure DigOk (u0 i u : Nat) (l : List Int) : Prop where
  hl : l.length = 20
  hi : i ≤ 20
  hu : u < 10 ^ i
  hb : u ≤ 18446744073709551615
  ok : (i = 20 ∧ u = u0) ∨ (i < 20 ∧ digZ u ++ l.drop i = digL u0)
theorem DigOk.start {u0 : Nat} (h : u0 ≤ 18446744073709551615) : DigOk u0 20 u0 [0, 0, 0, 0, 0, 0, 0, 0, 0, 0, 0, 0, 0, 0, 0, 0, 0, 0, 0, 0] := ⟨rfl, Nat.le_refl _, by omega, h, .inl ⟨rfl, rfl⟩⟩
theorem DigOk.pos {u0 i u : Nat} {l : List Int} (h : DigOk u0 i u l) (hc : i = 20 ∨ 0 < u) : 1 ≤ i := by
  rcases hc with hc | hc
  · omega
  · rcases Nat.eq_zero_or_pos i with h0 | h0
    · have := h.hu; rw [h0] at this; omega
    · exact h0
theorem DigOk.next {u0 i u : Nat} {l : List Int} (h : DigOk u0 i u l) (hc : i = 20 ∨ 0 < u) : DigOk u0 (i - 1) (u / 10) (l.set (i - 1) ((48 + u % 10 : Nat) : Int)) := by
  have h1 := h.pos hc
  have hi := h.hi
  have hl := h.hl
  have hd : (l.set (i - 1) ((48 + u % 10 : Nat) : Int)).drop (i - 1) = ((48 + u % 10 : Nat) : Int) :: l.drop i := by
    rw [List.drop_eq_getElem_cons (by rw [List.length_set]; omega), List.getElem_set_self, show i - 1 + 1 = i by omega, List.drop_set_of_lt (by omega)]
  refine ⟨by rw [List.length_set]; exact h.hl, by omega, ?_, by have := h.hb; omega, .inr ⟨by omega, ?_⟩⟩
  · have := h.hu
    rw [show i = (i - 1) + 1 by omega, Nat.pow_succ] at this
    omega
  · rw [hd]
    have e : digZ (u / 10) ++ ((48 + u % 10 : Nat) : Int) :: l.drop i = digL u ++ l.drop i := by
      unfold digL; simp
    rw [e]
    rcases h.ok with ⟨h2, h3⟩ | ⟨h2, h3⟩
    · rw [h2, h3, List.drop_of_length_le (by omega)]; simp
    · rw [← digZ_pos (by omega)]; exact h3
theorem DigOk.done {u0 i u : Nat} {l : List Int} (h : DigOk u0 i u l) (h1 : i ≠ 20) (h2 : u = 0) : l.drop i = digL u0 := by
  rcases h.ok with ⟨h3, _⟩ | ⟨_, h3⟩
  · exact absurd h3 h1
  · rw [h2, digZ_0] at h3; simpa using h3

theorem digits_c (u : Nat) (hu : u ≤ 18446744073709551615) : FnP Try.prog 126 [.int .u64 (u : Int)] (.bs ((digL u).map toB)) := by
  refine FnP.mk Try.func126 rfl Try.ntmps126 rfl ?_
  intro B a w F hB hfr hS
  refine wp_seq ?_
  refine region_seq hS (by kernel_rfl)
    (cF rfl (o_assign (.cs (by kernel_rfl)) (by rfl)) trivial trivial
    Chain.nil)
    (by kernel_rfl) (by rw [hB]; kernel_rfl) ?_
  clear hS; intro a w F hS
  obtain ⟨F, hS⟩ := hS.norm [(0, _), (2, _)] [(0, _)] r2 r1
  refine then_n ?_
  refine wp_seq ?_
  refine region_seq hS (by kernel_rfl)
    (cF rfl (o_alloc (zs := [.int .u8 0, .int .u8 0, .int .u8 0, .int .u8 0, .int .u8 0, .int .u8 0, .int .u8 0, .int .u8 0, .int .u8 0, .int .u8 0, .int .u8 0, .int .u8 0, .int .u8 0, .int .u8 0, .int .u8 0, .int .u8 0, .int .u8 0, .int .u8 0, .int .u8 0, .int .u8 0]) 101 (by kernel_rfl)) trivial trivial
    Chain.nil)
    (by kernel_rfl) (by rw [hB]; kernel_rfl) ?_
  clear hS; intro a w F hS
  replace hS := hS.sub
  obtain ⟨F, hS⟩ := hS.norm [(0, _), (2, _), (3, _)] [(0, _), (101, _)] r3 r2
  try dsimp only [RS.sub, SF.sub, CF.sub, csub, Anc.sub, List.map, zCF] at hS
  generalize Act.tau a 3 = v3 at hS
  refine then_n ?_
  refine wp_seq ?_
  refine region_seq hS (by kernel_rfl)
    (cF rfl (o_assign (.ci (by kernel_rfl)) (by rfl)) trivial trivial
    Chain.nil)
    (by kernel_rfl) (by rw [hB]; kernel_rfl) ?_
  clear hS; intro a w F hS
  obtain ⟨F, hS⟩ := hS.norm [(0, _), (2, _), (3, _), (4, _)] [(0, _), (101, _)] r4 r2
  refine then_n ?_
  refine wp_seq ?_
  refine wp_block ?_
  replace hS := hS.turn 101 rfl (r' := .ob (.val v3) (arrB 171 (fun x => PV.int .u8 x) [0, 0, 0, 0, 0, 0, 0, 0, 0, 0, 0, 0, 0, 0, 0, 0, 0, 0, 0, 0])) (fun τ w f y h => pt_arrB (f := (fun x => PV.int .u8 x)) (l := [0, 0, 0, 0, 0, 0, 0, 0, 0, 0, 0, 0, 0, 0, 0, 0, 0, 0, 0, 0]) τ w f y h)
  obtain ⟨F, hS⟩ := hS.norm [(0, _), (3, _), (4, _)] [(0, _), (101, _)] r3 r2
  refine loop_inv (σ := (Nat × Nat × List Int)) (fun s => (⟨[(0, .pv (.int .u64 s.2.1)), (3, .pv (.is v3)), (4, .pv (.int .i64 s.1))], [(0, frame B), (101, .ob (.val v3) (arrB 171 (fun x => PV.int .u8 x) s.2.2))]⟩ : En)) (fun s => DigOk u s.1 s.2.1 s.2.2) (fun s => s.1) (20, u, [0, 0, 0, 0, 0, 0, 0, 0, 0, 0, 0, 0, 0, 0, 0, 0, 0, 0, 0, 0]) hS (DigOk.start hu) ?_
  clear hS; intro s a w F hC hS
  obtain ⟨i, x, l⟩ := s
  try dsimp only at hC
  try dsimp only at hS
  have hl := hC.hl
  have hi := hC.hi
  have hbx := hC.hb
  try dsimp only at hl hi hbx
  refine wp_seq ?_
  refine wp_seq ?_
  refine region_seq hS (by kernel_rfl)
    (cF rfl (o_move .t (by rfl)) r1 trivial
    (cF rfl (o_eql .t (.ci (by kernel_rfl))) r1 trivial
    (cF rfl (o_move .t (by rfl)) r1 trivial
    (Chain.cons (Cert.cond rfl rfl (fun h => o_move .t (by rfl))) r2 trivial
    (Chain.cons (Cert.cond rfl rfl (fun h => o_gtr (.w h) (.ci (by kernel_rfl)))) r2 trivial
    (cF rfl (o_or2 .t .t) r2 trivial
    Chain.nil))))))
    (by kernel_rfl) (by rw [hB]; kernel_rfl) ?_
  clear hS; intro a w F hS
  obtain ⟨F, hS⟩ := hS.norm [(0, _), (3, _), (4, _), (5, _), (6, _), (7, _), (8, _), (9, _), (10, _)] [(0, _), (101, _)] ⟨rfl, rfl, rfl, rfl, rfl, rfl, rfl, rfl, rfl, trivial⟩ r2
  refine then_n ?_
  refine cond_b hS rfl (fun hc0 => ?_) (fun hc0 => ?_)
  ·skip
   have hcc : i = 20 ∨ 0 < x := by simp only [Bool.or_eq_true, decide_eq_true_eq] at hc0; omega
   have hip := hC.pos hcc
   try dsimp only at hip
   refine wp_skip ?_
   refine then_n ?_
   refine wp_block ?_
   refine wp_seq ?_
   refine region_seq hS (by kernel_rfl)
     (cF rfl (o_move .t (by rfl)) r1 trivial
     (cF rfl (o_sub .t (.ci (by kernel_rfl))) r1 trivial
     (cF rfl (o_assign .t (by rfl)) r1 trivial
     Chain.nil)))
     (by kernel_rfl) (by rw [hB]; kernel_rfl) ?_
   clear hS; intro a w F hS
   obtain ⟨F, hS⟩ := hS.norm [(0, _), (3, _), (4, _), (5, _), (6, _), (7, _), (8, _), (9, _), (10, _), (11, _), (12, _)] [(0, _), (101, _)] ⟨rfl, rfl, rfl, rfl, rfl, rfl, rfl, rfl, rfl, rfl, rfl, trivial⟩ r2
   rw [show IntKind.wrap .i64 ((i : Int) - 1) = ((i - 1 : Nat) : Int) by rw [wrap_i64 (by omega)]; omega] at hS
   refine then_n ?_
   refine wp_seq ?_
   refine region_seq hS (by kernel_rfl)
     (cF rfl (o_move .t (by rfl)) r1 trivial
     (cF rfl (o_move .t (by rfl)) r1 trivial
     (cF rfl (o_rem .t (.ci (by kernel_rfl)) (by decide)) r1 trivial
     (cF rfl (o_add (.ci (by kernel_rfl)) .t) r1 trivial
     (cF rfl (o_conv Try.underlying5 (by kernel_rfl) .t) r1 trivial
     (cF rfl (o_indexAddr_ab (sz := 1) 101 Try.underlying171 (by kernel_rfl) .is .t (by omega) (by omega)) r2 r1
     (cF rfl (o_store_ab 101 .adr .t one_int (by kernel_rfl) (by rw [hl]; omega)) r2 r1
     Chain.nil)))))))
     (by kernel_rfl) (by rw [hB]; kernel_rfl) ?_
   clear hS; intro a w F hS
   obtain ⟨F, hS⟩ := hS.norm [(0, _), (3, _), (4, _), (5, _), (6, _), (7, _), (8, _), (9, _), (10, _), (11, _), (12, _), (13, _), (14, _), (15, _), (16, _), (17, _), (18, _)] [(0, _), (101, _)] ⟨rfl, rfl, rfl, rfl, rfl, rfl, rfl, rfl, rfl, rfl, rfl, rfl, rfl, rfl, rfl, rfl, rfl, trivial⟩ r2
   try dsimp only [List.map, stCells, List.length_cons, List.length_nil, Nat.reduceAdd, List.drop_succ_cons, List.drop_zero, List.drop_nil, List.take_succ_cons, List.take_zero, List.take_nil, List.cons_append, List.nil_append, zCF] at hS
   rw [show 0 + ((i - 1 : Nat) : Int).toNat * 1 = i - 1 by omega] at hS
   rw [show IntKind.wrap .u8 (IntKind.wrap .u64 (48 + (x : Int).tmod 10)) = ((48 + x % 10 : Nat) : Int) by rw [u8_wrap, u64_wrap, Int.tmod_eq_emod_of_nonneg (by omega)]; omega] at hS
   refine then_n ?_
   refine region_seq hS (by kernel_rfl)
     (cF rfl (o_move .t (by rfl)) r1 trivial
     (cF rfl (o_quo .t (.ci (by kernel_rfl)) (by decide)) r1 trivial
     (cF rfl (o_assign .t (by rfl)) r1 trivial
     Chain.nil)))
     (by kernel_rfl) (by rw [hB]; kernel_rfl) ?_
   clear hS; intro a w F hS
   obtain ⟨F, hS⟩ := hS.norm [(0, _), (3, _), (4, _), (5, _), (6, _), (7, _), (8, _), (9, _), (10, _), (11, _), (12, _), (13, _), (14, _), (15, _), (16, _), (17, _), (18, _), (19, _), (20, _)] [(0, _), (101, _)] ⟨rfl, rfl, rfl, rfl, rfl, rfl, rfl, rfl, rfl, rfl, rfl, rfl, rfl, rfl, rfl, rfl, rfl, rfl, rfl, trivial⟩ r2
   refine block_n ?_
   refine then_n ?_
   replace hS := hS.ent (i := 0) (s' := .pv (.int .u64 ((x / 10 : Nat) : Int))) rfl (.int (by rw [u64_wrap, Int.tdiv_eq_ediv_of_nonneg (by omega)]; omega))
   obtain ⟨F, hS⟩ := hS.norm [(0, _), (3, _), (4, _)] [(0, _), (101, _)] r3 r2
   exact ⟨(i - 1, x / 10, l.set (i - 1) ((48 + x % 10 : Nat) : Int)), F, (hC.next hcc), hS, by dsimp only; omega⟩
  ·skip
   have hcc : i ≠ 20 ∧ x = 0 := by simp only [Bool.or_eq_false_iff, decide_eq_false_iff_not] at hc0; omega
   have hdd := hC.done hcc.1 hcc.2
   refine wp_exit ?_
   refine then_x ?_
   refine then_x ?_
   refine block_x ?_
   refine then_n ?_
   refine wp_seq ?_
   replace hS := hS.turn 101 rfl arrB_pt
   obtain ⟨F, hS⟩ := hS.giveRef 101 3 rfl rfl (okCF_map _ _)
   rw [unCF_map] at hS
   obtain ⟨F, hS⟩ := hS.norm [(0, _), (3, _), (4, _), (5, _), (6, _), (7, _), (8, _), (9, _), (10, _)] [(0, _)] ⟨rfl, rfl, rfl, rfl, rfl, rfl, rfl, rfl, rfl, trivial⟩ r1
   refine region_seq hS (by kernel_rfl)
     (cF rfl (o_move .t (by rfl)) r1 trivial
     (cF rfl (o_slice_arr (sz := 1) (R := rB) (l := l) Try.underlying171 (by kernel_rfl) (by intro x; rfl) hl (by decide) .t .t (by omega) (by omega)) r2 trivial
     (cF rfl (o_conv_sl_bs Try.underlying113 Try.underlying5 Try.underlying9 .t) r1 trivial
     (cF rfl (o_assign .t (by rfl)) r1 trivial
     Chain.nil))))
     (by kernel_rfl) (by rw [hB]; kernel_rfl) ?_
   clear hS; intro a w F hS
   obtain ⟨F, hS⟩ := hS.norm [(2, _)] [(0, _)] r1 r1
   refine then_n ?_
   refine wp_ret ?_
   refine ret_P hfr hS rfl (.tmp rfl .nil) (.one (.bs (by rw [Int.toNat_natCast, hdd])))

end Go.Proofs.Ytpjjmolibanakaa
