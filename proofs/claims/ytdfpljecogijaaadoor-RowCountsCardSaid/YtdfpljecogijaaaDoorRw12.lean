/- lives. No condition beyond those that each theorem says. -/
import Derived.Test.YtdfpljecogijaaaDoorRw11
namespace Go.Proofs.YtdfpljecogijaaaDoor
open Go Go.Gm
set_option linter.unusedVariables false
set_option linter.unusedSimpArgs false
set_option maxHeartbeats 4000000
set_option maxRecDepth 8000


theorem up_nil {n : Nat} : Up n [] := ⟨List.Pairwise.nil, by simp⟩
theorem ofL_up (m : Int) (l : List Int) : Up (rowN m) (ofL m l) := (IsSet.of m l).up
theorem len_split (l : List Int) (p : Int → Bool) : l.length = (l.filter p).length + (l.filter fun x => !p x).length := by
  induction l with
  | nil => rfl
  | cons a l ih =>
    cases h : p a <;> simp [h] <;> omega
theorem or_split {n : Nat} {x z : List Int} (hx : Up n x) (hz : Up n z) : (orL x n z).length = x.length + (minusL z x).length := by
  have ho := orL_up hx z
  have e1 : (orL x n z).filter (fun i => decide (i ∈ x)) = x := up_ext (filter_up ho _).1 hx.1 fun i => by
    rw [List.mem_filter, mem_orL hx]
    constructor
    · rintro ⟨_, h⟩; simpa using h
    · intro h; exact ⟨.inl h, by simpa using h⟩
  have e2 : (orL x n z).filter (fun i => !decide (i ∈ x)) = minusL z x := up_ext (filter_up ho _).1 (filter_up hz _).1 fun i => by
    unfold minusL
    rw [List.mem_filter, mem_orL hx, List.mem_filter]
    constructor
    · rintro ⟨h1 | h1, h2⟩
      · simp at h2; exact absurd h1 h2
      · exact ⟨h1.1, h2⟩
    · rintro ⟨h1, h2⟩; have := hz.2 i h1; exact ⟨.inr ⟨h1, this.1, this.2⟩, h2⟩
  have := len_split (orL x n z) (fun i => decide (i ∈ x))
  rw [e1, e2] at this
  exact this
theorem and_comm_l {n : Nat} {x z : List Int} (hx : Up n x) (hz : Up n z) : andL x z = andL z x := up_ext (filter_up hx _).1 (filter_up hz _).1 fun i => by
  unfold andL
  rw [List.mem_filter, List.mem_filter]
  simp [and_comm]
theorem less_both (x z : List Int) : x.length = (andL x z).length + (minusL x z).length := len_split x fun i => decide (i ∈ z)
theorem or_both {n : Nat} {x z : List Int} (hx : Up n x) (hz : Up n z) : (orL x n z).length + (andL x z).length = x.length + z.length := by
  have h1 := or_split hx hz
  have h2 := less_both z x
  rw [and_comm_l hx hz]
  omega
theorem back_whole {n : Nat} {x : List Int} (hx : Up n x) (z : List Int) : orL (minusL x z) n (andL x z) = x := up_ext (orL_up (filter_up hx _) _).1 hx.1 fun i => by
  rw [mem_orL (show Up n (minusL x z) from filter_up hx _)]
  unfold minusL andL
  rw [List.mem_filter, List.mem_filter]
  constructor
  · rintro (h | h)
    · exact h.1
    · exact h.1.1
  · intro h
    have := hx.2 i h
    by_cases h2 : i ∈ z
    · exact .inr ⟨⟨h, by simpa using h2⟩, this.1, this.2⟩
    · exact .inl ⟨h, by simpa using h2⟩
theorem up_sub {n : Nat} {x z : List Int} (hx : Up n x) (hz : Up n z) (h : ∀ i ∈ x, i ∈ z) : x.length ≤ z.length := by
  have e : z.filter (fun i => decide (i ∈ x)) = x := up_ext (filter_up hz _).1 hx.1 fun i => by
    rw [List.mem_filter]
    constructor
    · rintro ⟨_, h⟩; simpa using h
    · intro hi; exact ⟨h i hi, by simpa using hi⟩
  have := List.length_filter_le (fun i => decide (i ∈ x)) z
  rw [e] at this
  exact this
/-- What is moved up and down again. -/
theorem mem_back {n : Nat} {x : List Int} {k : Int} (hx : Up n x) (hk : 0 ≤ k) (i : Int) : i ∈ movedL (movedL x n k) n (-k) ↔ i ∈ x ∧ i < n - k := by
  rw [mem_movedL, mem_movedL]
  constructor
  · rintro ⟨_, ⟨_, h2, h3, h4⟩, h5, h6⟩
    rw [show i - -k - k = i by omega] at h2
    exact ⟨h2, by omega⟩
  · rintro ⟨h1, h2⟩
    have := hx.2 i h1
    exact ⟨by omega, ⟨by omega, by rw [show i - -k - k = i by omega]; exact h1, by omega, by omega⟩, this.1, this.2⟩
theorem back_none {n : Nat} {x : List Int} {k : Int} (h : (n : Int) ≤ k) : movedL (movedL x n k) n (-k) = [] := by
  rw [moved_none (.inl h)]
  unfold movedL
  split <;> rfl

theorem lives_c  : FnPg Tryd.prog tabP tabV 25 [] (.bool true) := by
  refine FnPg.mk Tryd.func25 rfl Tryd.ntmps25 rfl ?_
  intro B a w F hB hfr hS
  refine wp_seq ?_
  refine region_seq hS (by kernel_rfl)
    (cF rfl (o_assign .cb (by rfl)) trivial trivial
    Chain.nil)
    (by kernel_rfl) (by rw [hB]; kernel_rfl) ?_
  clear hS; intro a w F hS
  obtain ⟨F, hS⟩ := hS.norm [(0, _)] [(0, _), (9, _)] r1 r2
  refine then_n ?_
  refine wp_seq ?_
  replace hS := hS.dupG 9 61 rfl rfl
  replace hS := hS.dupG 9 62 rfl rfl
  refine region_seq hS (by kernel_rfl)
    (cF rfl (o_buildSliceE (sz := 1) (zs := [.int .i64 0]) (r := [(0, _), (1, _), (2, _), (3, _)]) (l := [_, _, _, _]) Tryd.underlying22 (by kernel_rfl) (by kernel_rfl) (by kernel_rfl) (by kernel_rfl) rfl rfl (.one rfl (.ci (by kernel_rfl)) one_int (by kernel_rfl) (.one rfl (.ci (by kernel_rfl)) one_int (by kernel_rfl) (.one rfl (.ci (by kernel_rfl)) one_int (by kernel_rfl) (.one rfl (.ci (by kernel_rfl)) one_int (by kernel_rfl) .nil)))) rfl) trivial trivial
    (cF rfl (o_callNg 61 (ofS_c 70 [0, 63, 69, 70] (by decide)) Tryd.func26 rfl (by kernel_rfl) (Args.two (.ci (by kernel_rfl)) (.conv .t (Ent.arrSl (R := rInt) (l := [0, 63, 69, 70]) rfl))) PV.ptr_one) r1 r1
    (cF rfl (o_callNg 62 (newS_c (-3)) Tryd.func32 rfl (by kernel_rfl) (Args.one (.ci (by kernel_rfl))) PV.ptr_one) trivial r1
    (cF rfl (o_assign .t (by rfl)) r1 trivial
    (cF rfl (o_assign .t (by rfl)) r1 trivial
    Chain.nil)))))
    (by kernel_rfl) (by rw [hB]; kernel_rfl) ?_
  clear hS; intro a w F hS
  replace hS := hS.sub
  obtain ⟨F, hS⟩ := hS.norm [(0, _), (1, _), (2, _)] [(0, _), (9, _), (61, _), (62, _)] r3 r4
  try dsimp only [RS.sub, SF.sub, CF.sub, csub, Anc.sub, List.map, stCells, List.length_cons, List.length_nil, Nat.reduceAdd, List.drop_succ_cons, List.drop_zero, List.drop_nil, List.take_succ_cons, List.take_zero, List.take_nil, List.cons_append, List.nil_append, zCF] at hS
  generalize Act.tau a 9 = v9 at hS
  generalize Act.tau a 10 = v10 at hS
  obtain ⟨_, _, _, ho⟩ := hS.obGet 61 rfl
  obtain ⟨b1, rfl⟩ := setH_ptr ho
  clear ho
  replace hS := hS.turn 61 rfl (r' := RS.hp (setH (.pointer (some ⟨b1, 0, none⟩)) (rowN 70) (ofL 70 [0, 63, 69, 70]))) (fun _ _ _ _ h => h)
  obtain ⟨F, hS⟩ := hS.norm [(0, _), (1, _), (2, _)] [(0, _), (9, _), (61, _), (62, _)] r3 r4
  obtain ⟨_, _, _, ho⟩ := hS.obGet 62 rfl
  obtain ⟨b2, rfl⟩ := setH_ptr ho
  clear ho
  replace hS := hS.turn 62 rfl (r' := RS.hp (setH (.pointer (some ⟨b2, 0, none⟩)) (rowN (-3)) [])) (fun _ _ _ _ h => h)
  obtain ⟨F, hS⟩ := hS.norm [(0, _), (1, _), (2, _)] [(0, _), (9, _), (61, _), (62, _)] r3 r4
  rw [show rowN 70 = 70 from rfl, show rowN (-3) = 0 from rfl, show ofL 70 [0, 63, 69, 70] = [0, 63, 69] from by decide] at hS
  refine then_n ?_
  refine wp_seq ?_
  refine wp_seq ?_
  refine region_seq hS (by kernel_rfl)
    (cF rfl (o_move .t (by rfl)) r1 trivial
    (cF rfl (o_nil_eql _ Tryd.underlying46 rfl .t) r1 trivial
    (cF rfl (o_move .t (by rfl)) r1 trivial
    (Chain.cons (Cert.cond rfl rfl (fun h => o_move .t (by rfl))) r2 trivial
    (Chain.cons (Cert.cond rfl rfl (fun h => o_nil_eql _ Tryd.underlying46 rfl (.w h))) r2 trivial
    (cF rfl (o_or2 .t .t) r2 trivial
    (cF rfl (o_move .t (by rfl)) r1 trivial
    (Chain.cons (Cert.cond rfl rfl (fun h => o_move .t (by rfl))) r2 trivial
    (Chain.cons (Cert.condR rfl rfl (by rfl) (fun h => o_callG1 61 (moved_g (.pointer (some ⟨b1, 0, none⟩)) 70 [0, 63, 69] 1) Tryd.func27 rfl (by kernel_rfl) (Args.two (.w h) (.ci (by kernel_rfl))))) r2 r1
    (Chain.cons (Cert.cond rfl rfl (fun h => o_nn_eql Tryd.underlying46 (fun _ _ _ h => setR_ptr h) (.w h))) r2 trivial
    (cF rfl (o_or2 .t .t) r2 trivial
    (cF rfl (o_move .t (by rfl)) r1 trivial
    (Chain.cons (Cert.cond rfl rfl (fun h => o_move .t (by rfl))) r2 trivial
    (Chain.cons (Cert.condR rfl rfl (by rfl) (fun h => o_callG1 61 (moved_g (.pointer (some ⟨b1, 0, none⟩)) 70 [0, 63, 69] (-64)) Tryd.func27 rfl (by kernel_rfl) (Args.two (.w h) (.ci (by kernel_rfl))))) r2 r1
    (Chain.cons (Cert.cond rfl rfl (fun h => o_nn_eql Tryd.underlying46 (fun _ _ _ h => setR_ptr h) (.w h))) r2 trivial
    (cF rfl (o_or2 .t .t) r2 trivial
    (cF rfl (o_move .t (by rfl)) r1 trivial
    (Chain.cons (Cert.cond rfl rfl (fun h => o_move .t (by rfl))) r2 trivial
    (Chain.cons (Cert.condR rfl rfl (by rfl) (fun h => o_callG1 61 (copy_g (.pointer (some ⟨b1, 0, none⟩)) 70 [0, 63, 69]) Tryd.func38 rfl (by kernel_rfl) (Args.one (.w h)))) r2 r1
    (Chain.cons (Cert.cond rfl rfl (fun h => o_nn_eql Tryd.underlying46 (fun _ _ _ h => setR_ptr h) (.w h))) r2 trivial
    (cF rfl (o_or2 .t .t) r2 trivial
    Chain.nil)))))))))))))))))))))
    (by kernel_rfl) (by rw [hB]; kernel_rfl) ?_
  clear hS; intro a w F hS
  obtain ⟨F, hS⟩ := hS.norm [(0, _), (1, _), (2, _), (31, _)] [(0, _), (9, _), (61, _), (62, _)] r4 r4
  refine then_n ?_
  refine cond_b hS rfl (fun hc0 => ?_) (fun hc0 => ?_)
  ·skip
   simp at hc0
  ·skip
   refine wp_skip ?_
   refine then_n ?_
   refine wp_seq ?_
   replace hS := hS.fresh 63 rfl
   refine region_seq hS (by kernel_rfl)
     (cF rfl (o_move .t (by rfl)) r1 trivial
     (cF rfl (o_callG2N 61 63 (copy_n (.pointer (some ⟨b1, 0, none⟩)) 70 [0, 63, 69]) Tryd.func38 rfl (by kernel_rfl) rfl (Args.one .t) PV.ptr_one) r1 r2
     (cF rfl (o_assign .t (by rfl)) r1 trivial
     Chain.nil)))
     (by kernel_rfl) (by rw [hB]; kernel_rfl) ?_
   clear hS; intro a w F hS
   replace hS := hS.sub
   obtain ⟨F, hS⟩ := hS.norm [(0, _), (1, _), (2, _), (3, _)] [(0, _), (9, _), (61, _), (62, _), (63, _)] r4 r5
   try dsimp only [RS.sub, SF.sub, CF.sub, csub, Anc.sub, List.map] at hS
   generalize Act.tau a 33 = v33 at hS
   obtain ⟨_, _, _, ho⟩ := hS.obGet 63 rfl
   obtain ⟨b3, rfl⟩ := setH_ptr ho
   clear ho
   replace hS := hS.turn 63 rfl (r' := RS.hp (setH (.pointer (some ⟨b3, 0, none⟩)) 70 [0, 63, 69])) (fun _ _ _ _ h => h)
   obtain ⟨F, hS⟩ := hS.norm [(0, _), (1, _), (2, _), (3, _)] [(0, _), (9, _), (61, _), (62, _), (63, _)] r4 r5
   refine then_n ?_
   refine wp_seq ?_
   refine region_seq hS (by kernel_rfl)
     (cF rfl (o_move .t (by rfl)) r1 trivial
     (cF rfl (o_callG1 63 (setS_c b3 70 [0, 63, 69] 69 false) Tryd.func57 rfl (by kernel_rfl) (Args.three .t (.ci (by kernel_rfl)) .cb)) r1 r1
     (cF rfl (o_move .t (by rfl)) r1 trivial
     (cF rfl (o_callG1 63 (setS_c b3 70 (putL [0, 63, 69] 70 69 false) 69 false) Tryd.func57 rfl (by kernel_rfl) (Args.three .t (.ci (by kernel_rfl)) .cb)) r1 r1
     (cF rfl (o_move .t (by rfl)) r1 trivial
     (cF rfl (o_callG1 63 (setS_c b3 70 (putL (putL [0, 63, 69] 70 69 false) 70 69 false) 70 true) Tryd.func57 rfl (by kernel_rfl) (Args.three .t (.ci (by kernel_rfl)) .cb)) r1 r1
     (cF rfl (o_assign .t (by rfl)) r1 trivial
     (cF rfl (o_assign .t (by rfl)) r1 trivial
     (cF rfl (o_assign .t (by rfl)) r1 trivial
     Chain.nil)))))))))
     (by kernel_rfl) (by rw [hB]; kernel_rfl) ?_
   clear hS; intro a w F hS
   obtain ⟨F, hS⟩ := hS.norm [(0, _), (1, _), (2, _), (3, _), (4, _), (5, _), (6, _)] [(0, _), (9, _), (61, _), (62, _), (63, _)] r7 r5
   refine then_n ?_
   refine wp_seq ?_
   refine region_seq hS (by kernel_rfl)
     (cF rfl (o_assign (.c rfl) (by rfl)) trivial trivial
     Chain.nil)
     (by kernel_rfl) (by rw [hB]; kernel_rfl) ?_
   clear hS; intro a w F hS
   obtain ⟨F, hS⟩ := hS.norm [(0, _), (1, _), (2, _), (3, _), (4, _), (5, _), (6, _), (7, _)] [(0, _), (9, _), (61, _), (62, _), (63, _)] r8 r5
   refine then_n ?_
   refine wp_seq ?_
   refine region_seqN hS (by kernel_rfl)
     (cG rfl (o_move .t (by rfl)) r1 trivial
     (cG rfl (OpC.lend 61 [40] setH_lend (o_callP (len_c 70 [0, 63, 69]) Tryd.func30 rfl (by kernel_rfl) (Args.one .t)) ⟨rfl, trivial⟩ (.pv (fun _ _ _ _ h => h)) trivial (by rfl)) r1 r1
     (cG rfl (o_eql .t (.ci (by kernel_rfl))) r1 trivial
     (cG rfl (o_move .t (by rfl)) r1 trivial
     (ChainN.cons (Cert.cond rfl rfl (fun h => o_move .t (by rfl))) r2 trivial
     (ChainN.cons (Cert.cond rfl rfl (fun h => OpC.lend 61 [44] setH_lend (o_callP (countS_c 70 [0, 63, 69]) Tryd.func31 rfl (by kernel_rfl) (Args.one (.w h))) ⟨rfl, trivial⟩ (.pv (fun _ _ _ _ h => h)) trivial (by rfl))) r2 r1
     (ChainN.cons (Cert.cond rfl rfl (fun h => o_eql (.w h) (.ci (by kernel_rfl)))) r2 trivial
     (cG rfl (o_and2 .t .t) r2 trivial
     (cG rfl (o_move .t (by rfl)) r1 trivial
     (ChainN.cons (Cert.cond rfl rfl (fun h => o_move .t (by rfl))) r2 trivial
     (ChainN.cons (Cert.condR rfl rfl (by rfl) (fun h => o_callG1 61 (listG_c b1 70 [0, 63, 69]) Tryd.func28 rfl (by kernel_rfl) (Args.one (.w h)))) r2 r1
     (ChainN.cons (Cert.cond rfl rfl (fun h => o_buildSliceE (sz := 1) (zs := [.int .i64 0]) (r := [(0, _), (1, _), (2, _)]) (l := [_, _, _]) Tryd.underlying22 (by kernel_rfl) (by kernel_rfl) (by kernel_rfl) (by kernel_rfl) rfl rfl (.one rfl (.ci (by kernel_rfl)) one_int (by kernel_rfl) (.one rfl (.ci (by kernel_rfl)) one_int (by kernel_rfl) (.one rfl (.ci (by kernel_rfl)) one_int (by kernel_rfl) .nil))) rfl)) r1 trivial
     (ChainN.cons (Cert.cond rfl rfl (fun h => o_callP (sameInts_c [0, 63, 69] [0, 63, 69]) Tryd.func37 rfl (by kernel_rfl) (Args.two (.w h) (.conv (.w h) (Ent.arrSl (R := rInt) (l := [0, 63, 69]) rfl))))) r3 trivial
     (cG rfl (o_and2 .t .t) r2 trivial
     (cG rfl (o_move .t (by rfl)) r1 trivial
     (ChainN.cons (Cert.cond rfl rfl (fun h => o_move .t (by rfl))) r2 trivial
     (ChainN.cons (Cert.cond rfl rfl (fun h => OpC.lend 61 [55] setH_lend (o_callP (next_c 70 [0, 63, 69] 1) Tryd.func60 rfl (by kernel_rfl) (Args.two (.w h) (.ci (by kernel_rfl)))) ⟨rfl, trivial⟩ (.pv (fun _ _ _ _ h => h)) trivial (by rfl))) r2 r1
     (ChainN.cons (Cert.cond rfl rfl (fun h => o_eql (.w h) (.ci (by kernel_rfl)))) r2 trivial
     (cG rfl (o_and2 .t .t) r2 trivial
     (cG rfl (o_move .t (by rfl)) r1 trivial
     (ChainN.cons (Cert.cond rfl rfl (fun h => o_move .t (by rfl))) r2 trivial
     (ChainN.cons (Cert.cond rfl rfl (fun h => OpC.lend 61 [60] setH_lend (o_callP (next_c 70 [0, 63, 69] (-9)) Tryd.func60 rfl (by kernel_rfl) (Args.two (.w h) (.ci (by kernel_rfl)))) ⟨rfl, trivial⟩ (.pv (fun _ _ _ _ h => h)) trivial (by rfl))) r2 r1
     (ChainN.cons (Cert.cond rfl rfl (fun h => o_eql (.w h) (.ci (by kernel_rfl)))) r2 trivial
     (cG rfl (o_and2 .t .t) r2 trivial
     (ChainN.norm [(0, _), (1, _), (2, _), (3, _), (4, _), (5, _), (6, _), (7, _), (63, _)] [(0, _), (9, _), (61, _), (62, _), (63, _)] ⟨rfl, rfl, rfl, rfl, rfl, rfl, rfl, rfl, rfl, trivial⟩ r5
     (cG rfl (o_move .t (by rfl)) r1 trivial
     (ChainN.cons (Cert.cond rfl rfl (fun h => o_move .t (by rfl))) r2 trivial
     (ChainN.cons (Cert.cond rfl rfl (fun h => OpC.lend 61 [65] setH_lend (o_callP (next_c 70 [0, 63, 69] 70) Tryd.func60 rfl (by kernel_rfl) (Args.two (.w h) (.ci (by kernel_rfl)))) ⟨rfl, trivial⟩ (.pv (fun _ _ _ _ h => h)) trivial (by rfl))) r2 r1
     (ChainN.cons (Cert.cond rfl rfl (fun h => o_eql (.w h) (.ci (by kernel_rfl)))) r2 trivial
     (cG rfl (o_and2 .t .t) r2 trivial
     (cG rfl (o_move .t (by rfl)) r1 trivial
     (ChainN.cons (Cert.cond rfl rfl (fun h => o_move .t (by rfl))) r2 trivial
     (ChainN.cons (Cert.condR rfl rfl (by rfl) (fun h => o_callG1 61 (moved_g (.pointer (some ⟨b1, 0, none⟩)) 70 [0, 63, 69] 1) Tryd.func27 rfl (by kernel_rfl) (Args.two (.w h) (.ci (by kernel_rfl))))) r2 r1
     (ChainN.cons (Cert.cond rfl rfl (fun h => o_callP (list_c 70 (movedL [0, 63, 69] 70 1)) Tryd.func28 rfl (by kernel_rfl) (Args.one (.w h)))) r2 trivial
     (ChainN.cons (Cert.cond rfl rfl (fun h => o_buildSliceE (sz := 1) (zs := [.int .i64 0]) (r := [(0, _), (1, _)]) (l := [_, _]) Tryd.underlying22 (by kernel_rfl) (by kernel_rfl) (by kernel_rfl) (by kernel_rfl) rfl rfl (.one rfl (.ci (by kernel_rfl)) one_int (by kernel_rfl) (.one rfl (.ci (by kernel_rfl)) one_int (by kernel_rfl) .nil)) rfl)) r1 trivial
     (ChainN.cons (Cert.cond rfl rfl (fun h => o_callP (sameInts_c (movedL [0, 63, 69] 70 1) [1, 64]) Tryd.func37 rfl (by kernel_rfl) (Args.two (.w h) (.conv (.w h) (Ent.arrSl (R := rInt) (l := [1, 64]) rfl))))) r3 trivial
     (cG rfl (o_and2 .t .t) r2 trivial
     (cG rfl (o_move .t (by rfl)) r1 trivial
     (ChainN.cons (Cert.cond rfl rfl (fun h => o_move .t (by rfl))) r2 trivial
     (ChainN.cons (Cert.condR rfl rfl (by rfl) (fun h => o_callG1 61 (moved_g (.pointer (some ⟨b1, 0, none⟩)) 70 [0, 63, 69] (-64)) Tryd.func27 rfl (by kernel_rfl) (Args.two (.w h) (.ci (by kernel_rfl))))) r2 r1
     (ChainN.cons (Cert.cond rfl rfl (fun h => o_callP (list_c 70 (movedL [0, 63, 69] 70 (-64))) Tryd.func28 rfl (by kernel_rfl) (Args.one (.w h)))) r2 trivial
     (ChainN.cons (Cert.cond rfl rfl (fun h => o_buildSliceE (sz := 1) (zs := [.int .i64 0]) (r := [(0, _)]) (l := [_]) Tryd.underlying22 (by kernel_rfl) (by kernel_rfl) (by kernel_rfl) (by kernel_rfl) rfl rfl (.one rfl (.ci (by kernel_rfl)) one_int (by kernel_rfl) .nil) rfl)) r1 trivial
     (ChainN.cons (Cert.cond rfl rfl (fun h => o_callP (sameInts_c (movedL [0, 63, 69] 70 (-64)) [5]) Tryd.func37 rfl (by kernel_rfl) (Args.two (.w h) (.conv (.w h) (Ent.arrSl (R := rInt) (l := [5]) rfl))))) r3 trivial
     (cG rfl (o_and2 .t .t) r2 trivial
     (cG rfl (o_move .t (by rfl)) r1 trivial
     (ChainN.cons (Cert.cond rfl rfl (fun h => o_move .t (by rfl))) r2 trivial
     (cG rfl (o_and2 .t .t) r2 trivial
     (cG rfl (o_move .t (by rfl)) r1 trivial
     (ChainN.cons (Cert.cond rfl rfl (fun h => o_move .t (by rfl))) r2 trivial
     (ChainN.norm [(0, _), (1, _), (2, _), (3, _), (6, _), (7, _), (86, _), (87, _)] [(0, _), (9, _), (61, _), (62, _), (63, _)] r8 r5
     (ChainN.cons (Cert.cond rfl rfl (fun h => o_not (.w h))) r2 trivial
     (cG rfl (o_and2 .t .t) r2 trivial
     (cG rfl (o_move .t (by rfl)) r1 trivial
     (ChainN.cons (Cert.cond rfl rfl (fun h => o_move .t (by rfl))) r2 trivial
     (ChainN.cons (Cert.cond rfl rfl (fun h => o_not (.w h))) r2 trivial
     (cG rfl (o_and2 .t .t) r2 trivial
     (cG rfl (o_move .t (by rfl)) r1 trivial
     (ChainN.cons (Cert.cond rfl rfl (fun h => o_move .t (by rfl))) r2 trivial
     (ChainN.cons (Cert.cond rfl rfl (fun h => OpC.lend 63 [95] setH_lend (o_callP (countS_c 70 (putL (putL (putL [0, 63, 69] 70 69 false) 70 69 false) 70 70 true)) Tryd.func31 rfl (by kernel_rfl) (Args.one (.w h))) ⟨rfl, trivial⟩ (.pv (fun _ _ _ _ h => h)) trivial (by rfl))) r2 r1
     (ChainN.cons (Cert.cond rfl rfl (fun h => o_eql (.w h) (.ci (by kernel_rfl)))) r2 trivial
     (cG rfl (o_and2 .t .t) r2 trivial
     (cG rfl (o_move .t (by rfl)) r1 trivial
     (ChainN.cons (Cert.cond rfl rfl (fun h => o_move .t (by rfl))) r2 trivial
     (ChainN.cons (Cert.cond rfl rfl (fun h => o_move .t (by rfl))) r2 trivial
     (ChainN.cons (Cert.cond rfl rfl (fun h => OpC.lend 63 [101] setH_lend (OpC.lend 61 [100] setH_lend (o_callP (sameS_c 70 70 [0, 63, 69] (putL (putL (putL [0, 63, 69] 70 69 false) 70 69 false) 70 70 true)) Tryd.func36 rfl (by kernel_rfl) (Args.two (.w h) (.w h))) ⟨rfl, trivial, trivial⟩ (.pv (fun _ _ _ _ h => h)) trivial (by rfl)) ⟨trivial, rfl, trivial⟩ (.pv (fun _ _ _ _ h => h)) trivial (by rfl))) r3 r2
     (ChainN.cons (Cert.cond rfl rfl (fun h => o_not (.w h))) r2 trivial
     (cG rfl (o_and2 .t .t) r2 trivial
     (cG rfl (o_move .t (by rfl)) r1 trivial
     (ChainN.cons (Cert.cond rfl rfl (fun h => o_move .t (by rfl))) r2 trivial
     (ChainN.cons (Cert.cond rfl rfl (fun h => OpC.lend 62 [106] setH_lend (o_callP (sameS_nil 0 []) Tryd.func36 rfl (by kernel_rfl) (Args.two (.w h) (.c rfl))) ⟨rfl, trivial⟩ (.pv (fun _ _ _ _ h => h)) trivial (by rfl))) r2 r1
     (cG rfl (o_and2 .t .t) r2 trivial
     (cG rfl (o_move .t (by rfl)) r1 trivial
     (ChainN.cons (Cert.cond rfl rfl (fun h => o_move .t (by rfl))) r2 trivial
     (ChainN.cons (Cert.cond rfl rfl (fun h => OpC.lend 62 [110] setH_lend (o_callP (len_c 0 []) Tryd.func30 rfl (by kernel_rfl) (Args.one (.w h))) ⟨rfl, trivial⟩ (.pv (fun _ _ _ _ h => h)) trivial (by rfl))) r2 r1
     (ChainN.norm [(0, _), (1, _), (7, _), (109, _), (111, _)] [(0, _), (9, _), (61, _), (62, _), (63, _)] r5 r5
     (ChainN.cons (Cert.cond rfl rfl (fun h => o_eql (.w h) (.ci (by kernel_rfl)))) r2 trivial
     (cG rfl (o_and2 .t .t) r2 trivial
     (cG rfl (o_move .t (by rfl)) r1 trivial
     (ChainN.cons (Cert.cond rfl rfl (fun h => o_move .t (by rfl))) r2 trivial
     (ChainN.cons (Cert.cond rfl rfl (fun h => o_callP (rlen_nil) Tryd.func30 rfl (by kernel_rfl) (Args.one (.w h)))) r2 trivial
     (ChainN.cons (Cert.cond rfl rfl (fun h => o_eql (.w h) (.ci (by kernel_rfl)))) r2 trivial
     (cG rfl (o_and2 .t .t) r2 trivial
     (cG rfl (o_move .t (by rfl)) r1 trivial
     (ChainN.cons (Cert.cond rfl rfl (fun h => o_move .t (by rfl))) r2 trivial
     (ChainN.cons (Cert.cond rfl rfl (fun h => o_callP (next_nil 0) Tryd.func60 rfl (by kernel_rfl) (Args.two (.w h) (.ci (by kernel_rfl))))) r2 trivial
     (ChainN.cons (Cert.cond rfl rfl (fun h => o_eql (.w h) (.ci (by kernel_rfl)))) r2 trivial
     (cG rfl (o_and2 .t .t) r2 trivial
     (cG rfl (o_move .t (by rfl)) r1 trivial
     (ChainN.cons (Cert.cond rfl rfl (fun h => o_move .t (by rfl))) r2 trivial
     (ChainN.cons (Cert.cond rfl rfl (fun h => o_callP (has_nil 0) Tryd.func29 rfl (by kernel_rfl) (Args.two (.w h) (.ci (by kernel_rfl))))) r2 trivial
     (ChainN.cons (Cert.cond rfl rfl (fun h => o_not (.w h))) r2 trivial
     (cG rfl (o_and2 .t .t) r2 trivial
     (cG rfl (o_move .t (by rfl)) r1 trivial
     (ChainN.cons (Cert.cond rfl rfl (fun h => o_move .t (by rfl))) r2 trivial
     (ChainN.cons (Cert.cond rfl rfl (fun h => o_move .t (by rfl))) r2 trivial
     (ChainN.cons (Cert.cond rfl rfl (fun h => o_callP (or_rnil (.pointer (some ⟨b1, 0, none⟩))) Tryd.func39 rfl (by kernel_rfl) (Args.two (.w h) (.w h)))) r3 trivial
     (ChainN.cons (Cert.cond rfl rfl (fun h => o_not (.w h))) r2 trivial
     (cG rfl (o_and2 .t .t) r2 trivial
     (cG rfl (o_move .t (by rfl)) r1 trivial
     (ChainN.norm [(0, _), (7, _), (135, _)] [(0, _), (9, _), (61, _), (62, _), (63, _)] r3 r5
     (ChainN.cons (Cert.cond rfl rfl (fun h => o_move .t (by rfl))) r2 trivial
     (ChainN.cons (Cert.cond rfl rfl (fun h => o_callP (list_nil) Tryd.func28 rfl (by kernel_rfl) (Args.one (.w h)))) r2 trivial
     (ChainN.cons (Cert.cond rfl rfl (fun h => o_len_sl Tryd.underlying22 (.w h))) r2 trivial
     (ChainN.cons (Cert.cond rfl rfl (fun h => o_eql (.w h) (.ci (by kernel_rfl)))) r2 trivial
     (cG rfl (o_and2 .t .t) r2 trivial
     (cG rfl (o_move .t (by rfl)) r1 trivial
     (ChainN.cons (Cert.cond rfl rfl (fun h => o_move .t (by rfl))) r2 trivial
     (ChainN.cons (Cert.cond rfl rfl (fun h => o_callPg 9 (copy_nilP) Tryd.func38 rfl (by kernel_rfl) (Args.one (.w h)))) r2 r1
     (ChainN.cons (Cert.cond rfl rfl (fun h => o_callP (sameS_nil 0 []) Tryd.func36 rfl (by kernel_rfl) (Args.two (.w h) (.c rfl)))) r2 trivial
     (cG rfl (o_and2 .t .t) r2 trivial
     (cG rfl (o_assign .t (by rfl)) r1 trivial
     ChainN.nil)))))))))))))))))))))))))))))))))))))))))))))))))))))))))))))))))))))))))))))))))))))))))))))))))))))))))))))))
     (by kernel_rfl) (by rw [hB]; kernel_rfl) ?_
   clear hS; intro a w F hS
   obtain ⟨F, hS⟩ := hS.norm [(0, _)] [(0, _), (9, _), (61, _), (62, _), (63, _)] r1 r5
   try dsimp only [List.map, stCells, List.length_cons, List.length_nil, Nat.reduceAdd, List.drop_succ_cons, List.drop_zero, List.drop_nil, List.take_succ_cons, List.take_zero, List.take_nil, List.cons_append, List.nil_append, zCF] at hS
   refine then_n ?_
   refine wp_ret ?_
   refine ret_P hfr hS rfl (.tmp rfl .nil) (.one (.bool (by decide +kernel)))

end Go.Proofs.YtdfpljecogijaaaDoor
