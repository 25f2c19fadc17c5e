/- Sequences stay. No condition beyond those that each theorem says. -/
import Derived.Test.YtdfpljecogijaaaSq6
import Derived.Test.YtdfpljecogijaaaAvE
namespace Go.Proofs.Ytdfpljecogijaaa
open Go Go.Gm
set_option linter.unusedVariables false
set_option linter.unusedSimpArgs false
set_option maxHeartbeats 4000000
set_option maxRecDepth 8000


structure DeedQ where
  kind : Int
  src : Int
  i : Int
  val : Int
  deriving DecidableEq, Inhabited
def rDeedQ (d : DeedQ) : List PV := [.int .i64 d.kind, .int .i64 d.src, .int .i64 d.i, .int .i64 d.val]
def rSS (b : Nat) (e : Int × Tree) : List PV := [.is (arV (some b)), .int .i64 e.1]
def rIL (l : List Int) : List PV := [.sl rInt l]
def SeqsOk (q : List Cell) (n : Nat) (ms : List (Int × Tree)) : Prop := ∀ e ∈ ms, SeqOk q e.2 e.1 ∧ tSize e.2 ≤ n
theorem SeqsOk.add {q q2 e : List Cell} {n : Nat} {ms : List (Int × Tree)} {x : Int × Tree} (h : SeqsOk q n ms) (hq : q2 = q ++ e) (hx : SeqOk q2 x.2 x.1) (hs : tSize x.2 ≤ ((n + 1 : Nat) : Int)) : SeqsOk q2 (n + 1) (ms ++ [x]) := fun y hy => by
  rcases List.mem_append.1 hy with hy | hy
  · have := h y hy
    exact ⟨by rw [hq]; exact this.1.app, by omega⟩
  · rw [List.mem_singleton.1 hy]; exact ⟨hx, hs⟩

theorem pick07_c (i n : Int) (hn : 0 < n) (hn2 : n ≤ 9223372036854775807) : FnP Try.prog 12 [.int .i64 i, .int .i64 n] (.int .i64 (i % n)) := by
  refine FnP.mk Try.func12 rfl Try.ntmps12 rfl ?_
  intro B a w F hB hfr hS
  refine wp_seq ?_
  refine region_seq hS (by kernel_rfl)
    (cF rfl (o_assign (.ci (by kernel_rfl)) (by rfl)) trivial trivial
    Chain.nil)
    (by kernel_rfl) (by rw [hB]; kernel_rfl) ?_
  clear hS; intro a w F hS
  obtain ⟨F, hS⟩ := hS.norm [(0, _), (1, _), (4, _)] [(0, _)] r3 r1
  try dsimp only [rCell, rPair] at hS
  refine then_n ?_
  refine wp_seq ?_
  refine region_seq hS (by kernel_rfl)
    (cF rfl (o_move .t (by rfl)) r1 trivial
    (cF rfl (o_move .t (by rfl)) r1 trivial
    (cF rfl (o_rem .t .t (by omega)) r2 trivial
    (cF rfl (o_assign .t (by rfl)) r1 trivial
    Chain.nil))))
    (by kernel_rfl) (by rw [hB]; kernel_rfl) ?_
  clear hS; intro a w F hS
  obtain ⟨F, hS⟩ := hS.norm [(0, _), (1, _), (4, _)] [(0, _)] r3 r1
  try dsimp only [rCell, rPair] at hS
  refine then_n ?_
  refine wp_seq ?_
  refine wp_seq ?_
  refine region_seq hS (by kernel_rfl)
    (cF rfl (o_move .t (by rfl)) r1 trivial
    (cF rfl (o_lss .t (.ci (by kernel_rfl))) r1 trivial
    Chain.nil))
    (by kernel_rfl) (by rw [hB]; kernel_rfl) ?_
  clear hS; intro a w F hS
  obtain ⟨F, hS⟩ := hS.norm [(0, _), (1, _), (4, _), (9, _)] [(0, _)] r4 r1
  try dsimp only [rCell, rPair] at hS
  refine then_n ?_
  refine cond_b hS rfl (fun hc0 => ?_) (fun hc0 => ?_)
  ·skip
   have h0 : Int.tmod i n < 0 := by simpa using hc0
   have hg : IntKind.wrap .i64 (Int.tmod i n + n) = i % n := by rw [wrap_i64 (by have := Int.lt_tmod_of_pos i hn; omega)]; have := Int.tmod_eq_emod (a := i) (b := n); rw [this]; rw [this] at h0; split at h0 <;> rename_i h3 <;> (try rw [if_neg h3]) <;> have := Int.emod_nonneg i (show n ≠ 0 by omega) <;> omega
   refine region_seq hS (by kernel_rfl)
     (cF rfl (o_move .t (by rfl)) r1 trivial
     (cF rfl (o_move .t (by rfl)) r1 trivial
     (cF rfl (o_add .t .t) r2 trivial
     (cF rfl (o_assign .t (by rfl)) r1 trivial
     Chain.nil))))
     (by kernel_rfl) (by rw [hB]; kernel_rfl) ?_
   clear hS; intro a w F hS
   obtain ⟨F, hS⟩ := hS.norm [(0, _), (4, _)] [(0, _)] r2 r1
   try dsimp only [rCell, rPair] at hS
   refine then_n ?_
   refine wp_seq ?_
   refine region_seq hS (by kernel_rfl)
     (cF rfl (o_move .t (by rfl)) r1 trivial
     (cF rfl (o_assign .t (by rfl)) r1 trivial
     Chain.nil))
     (by kernel_rfl) (by rw [hB]; kernel_rfl) ?_
   clear hS; intro a w F hS
   obtain ⟨F, hS⟩ := hS.norm [(4, _)] [(0, _)] r1 r1
   try dsimp only [rCell, rPair] at hS
   refine then_n ?_
   refine wp_ret ?_
   refine ret_P hfr hS rfl (.tmp rfl .nil) (.one (.int hg))
  ·skip
   have h0 : ¬ Int.tmod i n < 0 := by simpa using hc0
   have hg : Int.tmod i n = i % n := by have := Int.tmod_eq_emod (a := i) (b := n); rw [this]; rw [this] at h0; have h5 := Int.emod_lt_of_pos i hn; have h6 := Int.emod_nonneg i (show n ≠ 0 by omega); split <;> rename_i h3 <;> (try rw [if_neg h3] at h0) <;> omega
   refine wp_skip ?_
   refine then_n ?_
   refine wp_seq ?_
   refine region_seq hS (by kernel_rfl)
     (cF rfl (o_move .t (by rfl)) r1 trivial
     (cF rfl (o_assign .t (by rfl)) r1 trivial
     Chain.nil))
     (by kernel_rfl) (by rw [hB]; kernel_rfl) ?_
   clear hS; intro a w F hS
   obtain ⟨F, hS⟩ := hS.norm [(4, _)] [(0, _)] r1 r1
   try dsimp only [rCell, rPair] at hS
   refine then_n ?_
   refine wp_ret ?_
   refine ret_P hfr hS rfl (.tmp rfl .nil) (.one (.int hg))

theorem seqStays_c (l : List DeedQ) : FnP Try.prog 4 [.sl rDeedQ l] (.bool true) := by
  refine FnP.mk Try.func4 rfl Try.ntmps4 rfl ?_
  intro B a w F hB hfr hS
  have hll := Sat.lenSl hS (i := 0) rfl
  refine wp_seq ?_
  refine region_seq hS (by kernel_rfl)
    (cF rfl (o_assign .cb (by rfl)) trivial trivial
    Chain.nil)
    (by kernel_rfl) (by rw [hB]; kernel_rfl) ?_
  clear hS; intro a w F hS
  obtain ⟨F, hS⟩ := hS.norm [(0, _), (2, _)] [(0, _)] r2 r1
  try dsimp only [rInt, rSS, rIL, rDeedQ] at hS
  refine then_n ?_
  refine wp_seq ?_
  refine wp_seq ?_
  refine region_seq hS (by kernel_rfl)
    (cF rfl (o_callP (lives07_c) Try.func8 rfl (by kernel_rfl) Args.nil) trivial trivial
    (cF rfl (o_not .t) r1 trivial
    Chain.nil))
    (by kernel_rfl) (by rw [hB]; kernel_rfl) ?_
  clear hS; intro a w F hS
  obtain ⟨F, hS⟩ := hS.norm [(0, _), (2, _), (17, _)] [(0, _)] r3 r1
  try dsimp only [rInt, rSS, rIL, rDeedQ] at hS
  refine then_n ?_
  refine cond_b hS rfl (fun hc0 => ?_) (fun hc0 => ?_)
  ·skip
   simp at hc0
  ·skip
   refine wp_skip ?_
   refine then_n ?_
   refine wp_seq ?_
   refine wp_seq ?_
   refine region_seq hS (by kernel_rfl)
     (cF rfl (o_move .t (by rfl)) r1 trivial
     (cF rfl (o_len_sl Try.underlying22 .t) r1 trivial
     (cF rfl (o_gtr .t (.ci (by kernel_rfl))) r1 trivial
     Chain.nil)))
     (by kernel_rfl) (by rw [hB]; kernel_rfl) ?_
   clear hS; intro a w F hS
   obtain ⟨F, hS⟩ := hS.norm [(0, _), (2, _), (20, _)] [(0, _)] r3 r1
   try dsimp only [rInt, rSS, rIL, rDeedQ] at hS
   refine then_n ?_
   refine cond_b hS rfl (fun hc1 => ?_) (fun hc1 => ?_)
   ·skip
    refine wp_seq ?_
    refine region_seq hS (by kernel_rfl)
      (cF rfl (o_assign .cb (by rfl)) trivial trivial
      Chain.nil)
      (by kernel_rfl) (by rw [hB]; kernel_rfl) ?_
    clear hS; intro a w F hS
    obtain ⟨F, hS⟩ := hS.norm [(0, _), (2, _)] [(0, _)] r2 r1
    try dsimp only [rInt, rSS, rIL, rDeedQ] at hS
    refine then_n ?_
    refine wp_ret ?_
    refine then_r ?_
    refine ret_P hfr hS rfl (.tmp rfl .nil) (.one (.bool rfl))
   ·skip
    have hl60 : l.length ≤ 60 := by simp at hc1; omega
    refine wp_skip ?_
    refine then_n ?_
    refine wp_seq ?_
    replace hS := hS.fresh 101 rfl
    refine region_seq hS (by kernel_rfl)
      (cF rfl (o_callN 101 (aNew_c 65536 65536 (by decide)) Try.func9 rfl (by kernel_rfl) (Args.one (.ci (by kernel_rfl))) PV.ptr_one) trivial r1
      (cF rfl (o_assign .t (by rfl)) r1 trivial
      Chain.nil))
      (by kernel_rfl) (by rw [hB]; kernel_rfl) ?_
    clear hS; intro a w F hS
    replace hS := hS.sub
    obtain ⟨F, hS⟩ := hS.norm [(0, _), (2, _), (3, _)] [(0, _), (101, _)] r3 r2
    try dsimp only [RS.sub, SF.sub, CF.sub, csub, Anc.sub, List.map, rInt, rSS, rIL, rDeedQ] at hS
    generalize Act.tau a 21 = v21 at hS
    obtain ⟨_, _, _, ho⟩ := hS.obGet 101 rfl
    obtain ⟨b, rfl⟩ := arNamed_ptr ho
    clear ho
    replace hS := hS.turn 101 rfl (r' := RS.hp (arH (some b) 65536 [])) (fun _ _ _ _ h => arNamed_open h)
    obtain ⟨F, hS⟩ := hS.norm [(0, _), (2, _), (3, _)] [(0, _), (101, _)] r3 r2
    refine then_n ?_
    refine wp_seq ?_
    refine wp_seq ?_
    refine region_seq hS (by kernel_rfl)
      (cF rfl (o_move .t (by rfl)) r1 trivial
      (cF rfl (o_nil_eql _ Try.underlying24 rfl .t) r1 trivial
      Chain.nil))
      (by kernel_rfl) (by rw [hB]; kernel_rfl) ?_
    clear hS; intro a w F hS
    obtain ⟨F, hS⟩ := hS.norm [(0, _), (2, _), (3, _), (23, _)] [(0, _), (101, _)] r4 r2
    try dsimp only [rInt, rSS, rIL, rDeedQ] at hS
    refine then_n ?_
    refine cond_b hS rfl (fun hc2 => ?_) (fun hc2 => ?_)
    ·skip
     simp at hc2
    ·skip
     refine wp_skip ?_
     refine then_n ?_
     refine wp_seq ?_
     refine region_seq hS (by kernel_rfl)
       (cF rfl (o_move .t (by rfl)) r1 trivial
       (cF rfl (o_callP (snew_c (some b)) Try.func10 rfl (by kernel_rfl) (Args.one .t)) r1 trivial
       (cF rfl (o_buildRow (R := (rSS b)) (l := [(0, .nil)]) (sz := 2) (zs := [.pointer none, .int .i64 0]) (r := [(0, .tmp 25)]) 102 Try.underlying40 (by kernel_rfl) (by kernel_rfl) (by kernel_rfl) (by kernel_rfl) rfl rfl (.agg rfl (.conv .t .agg) (by kernel_rfl) (by kernel_rfl) .nil) rfl rfl (by intro x; rfl)) r1 trivial
       (cF rfl (o_assign .t (by rfl)) r1 trivial
       Chain.nil))))
       (by kernel_rfl) (by rw [hB]; kernel_rfl) ?_
     clear hS; intro a w F hS
     replace hS := hS.sub
     obtain ⟨F, hS⟩ := hS.norm [(0, _), (2, _), (4, _)] [(0, _), (101, _), (102, _)] r3 r3
     try dsimp only [RS.sub, SF.sub, CF.sub, csub, Anc.sub, List.map, stCells, List.length_cons, List.length_nil, Nat.reduceAdd, List.drop_succ_cons, List.drop_zero, List.drop_nil, List.take_succ_cons, List.take_zero, List.take_nil, List.cons_append, List.nil_append, zCF, rInt, rSS, rIL, rDeedQ] at hS
     generalize Act.tau a 26 = v26 at hS
     refine then_n ?_
     refine wp_seq ?_
     refine region_seq hS (by kernel_rfl)
       (cF rfl (o_buildRow (R := rIL) (l := [[]]) (sz := 1) (zs := [.slice none 0 0]) (r := [(0, _)]) 103 Try.underlying41 (by kernel_rfl) (by kernel_rfl) (by kernel_rfl) (by kernel_rfl) rfl rfl (.one rfl (.conv (.c rfl) (.nilSl (R := rInt))) one_sl (by kernel_rfl) .nil) rfl rfl (by intro x; rfl)) trivial trivial
       (cF rfl (o_assign .t (by rfl)) r1 trivial
       Chain.nil))
       (by kernel_rfl) (by rw [hB]; kernel_rfl) ?_
     clear hS; intro a w F hS
     replace hS := hS.sub
     obtain ⟨F, hS⟩ := hS.norm [(0, _), (2, _), (4, _), (5, _)] [(0, _), (101, _), (102, _), (103, _)] r4 r4
     try dsimp only [RS.sub, SF.sub, CF.sub, csub, Anc.sub, List.map, stCells, List.length_cons, List.length_nil, Nat.reduceAdd, List.drop_succ_cons, List.drop_zero, List.drop_nil, List.take_succ_cons, List.take_zero, List.take_nil, List.cons_append, List.nil_append, zCF, rInt, rSS, rIL, rDeedQ] at hS
     generalize Act.tau a 27 = v27 at hS
     refine then_n ?_
     refine wp_seq ?_
     refine wp_seq ?_
     refine region_seq hS (by kernel_rfl)
       (cF rfl (o_move .t (by rfl)) r1 trivial
       (cF rfl (o_len_sl Try.underlying22 .t) r1 trivial
       (cF rfl (o_move (.ci (by kernel_rfl)) (by rfl)) trivial trivial
       Chain.nil)))
       (by kernel_rfl) (by rw [hB]; kernel_rfl) ?_
     clear hS; intro a w F hS
     obtain ⟨F, hS⟩ := hS.norm [(2, _), (4, _), (5, _), (28, _), (29, _), (30, _)] [(0, _), (101, _), (102, _), (103, _)] r6 r4
     try dsimp only [rInt, rSS, rIL, rDeedQ] at hS
     refine then_n ?_
     refine wp_block ?_
     refine loop_keep (σ := (Nat) × (List Cell) × (Value) × (List (Int × Tree)) × (Value) × (List (List Int))) [2, 28, 29] [0] (fun s => [(30, .pv (.int .i64 (s.1 : Int))), (4, .pv (.is s.2.2.1)), (5, .pv (.is s.2.2.2.2.1))]) (fun s => [(101, RS.hp (arH (some b) 65536 s.2.1)), (102, .ob (.val s.2.2.1) (rowH 27 2 (rSS b) s.2.2.2.1)), (103, .ob (.val s.2.2.2.2.1) (rowH 29 1 rIL s.2.2.2.2.2))]) (fun s => s.1 ≤ l.length ∧ (s.2.2.2.1.length = s.1 + 1 ∧ SeqsOk s.2.1 s.1 s.2.2.2.1 ∧ s.2.2.2.2.2 = s.2.2.2.1.map (fun e => tVals e.2) ∧ (s.2.1.length : Int) ≤ 246 * s.1)) (fun s => l.length - s.1) ((0), ([]), (v26), ([(0, .nil)]), (v27), ([[]])) hS ⟨rfl, rfl, rfl, rfl, rfl, rfl, trivial⟩ ⟨rfl, rfl, rfl, rfl, trivial⟩ ⟨Nat.zero_le _, ⟨rfl, fun e he => by rw [List.mem_singleton.1 he]; exact ⟨SeqOk.nil _, Int.le_refl 0⟩, rfl, by simp⟩⟩ ?_
     clear hS; intro s a w F hC hS
     obtain ⟨i, q, mv, ms, lv, ls⟩ := s
     try dsimp only at hC
     obtain ⟨F, hS⟩ := hS.norm [(2, _), (4, _), (5, _), (28, _), (29, _), (30, _)] [(0, _), (101, _), (102, _), (103, _)] r6 r4
     try dsimp only at hS
     obtain ⟨hi, hq⟩ := hC
     obtain ⟨hml, hall, hls, hql⟩ := hq
     have hll2 : ls.length = i + 1 := by rw [hls, List.length_map]; exact hml
     refine wp_seq ?_
     refine region_seq hS (by kernel_rfl)
       (cF rfl (o_lss .t .t) r2 trivial
       Chain.nil)
       (by kernel_rfl) (by rw [hB]; kernel_rfl) ?_
     clear hS; intro a w F hS
     obtain ⟨F, hS⟩ := hS.norm [(2, _), (4, _), (5, _), (28, _), (29, _), (30, _), (31, _)] [(0, _), (101, _), (102, _), (103, _)] r7 r4
     try dsimp only [rInt, rSS, rIL, rDeedQ] at hS
     refine then_n ?_
     refine wp_seq ?_
     refine cond_b hS rfl (fun hc3 => ?_) (fun hc3 => ?_)
     ·skip
      have hil : i < l.length := by simp at hc3; omega
      have hik0 : 0 ≤ ((Go.Gm.nth l i).src % (ms.length : Int)) := Int.emod_nonneg _ (by omega)
      have hik1 : ((Go.Gm.nth l i).src % (ms.length : Int)) < (ms.length : Int) := Int.emod_lt_of_pos _ (by omega)
      refine wp_skip ?_
      refine then_n ?_
      refine wp_seq ?_
      refine wp_block ?_
      refine wp_seq ?_
      refine region_seq hS (by kernel_rfl)
        (cF rfl (o_indexAddr_sl (sz := 4) (.mk Try.underlying22 (by kernel_rfl)) (by intro x; rfl) .t .t (by first | assumption | omega) (by first | assumption | omega)) r2 trivial
        (cF rfl (o_load_ref (ag := true) (sz := 4) .t (by kernel_rfl) (by kernel_rfl) (by kernel_rfl)) r1 trivial
        (cF rfl (o_alloc (zs := [.int .i64 0, .int .i64 0, .int .i64 0, .int .i64 0]) 104 (by kernel_rfl)) trivial trivial
        (cF rfl (o_storeA (sz := 4) 104 .same .t (by kernel_rfl) (by kernel_rfl) (by kernel_rfl)) r2 r1
        Chain.nil))))
        (by kernel_rfl) (by rw [hB]; kernel_rfl) ?_
      clear hS; intro a w F hS
      replace hS := hS.sub
      obtain ⟨F, hS⟩ := hS.norm [(2, _), (4, _), (5, _), (7, _), (28, _), (29, _), (30, _), (31, _), (32, _), (33, _)] [(0, _), (101, _), (102, _), (103, _), (104, _)] ⟨rfl, rfl, rfl, rfl, rfl, rfl, rfl, rfl, rfl, rfl, trivial⟩ r5
      try dsimp only [RS.sub, SF.sub, CF.sub, csub, Anc.sub, List.map, stCells, List.length_cons, List.length_nil, Nat.reduceAdd, List.drop_succ_cons, List.drop_zero, List.drop_nil, List.take_succ_cons, List.take_zero, List.take_nil, List.cons_append, List.nil_append, zCF, ldSF, rInt, rSS, rIL, rDeedQ] at hS
      generalize Act.tau a 7 = v7 at hS
      try simp only [Int.toNat_natCast] at hS
      refine then_n ?_
      refine wp_seq ?_
      refine region_seq hS (by kernel_rfl)
        (cF rfl (o_move .t (by rfl)) r1 trivial
        (cF rfl (o_fieldAddr (off := 1) 104 .is (by kernel_rfl) (by rfl)) r1 r1
        (cF rfl (o_load (ag := false) (sz := 1) 104 .adr (by kernel_rfl) (by kernel_rfl) (by kernel_rfl) (by rfl)) r1 r1
        (cF rfl (o_move .t (by rfl)) r1 trivial
        (cF rfl (o_len_row 102 Try.underlying40 .is) r1 r1
        (cF rfl (o_callP (pick07_c _ _ (by omega) (by omega)) Try.func12 rfl (by kernel_rfl) (Args.two .t .t)) r2 trivial
        (cF rfl (o_indexAddr_row (sz := 2) 102 (.mk Try.underlying40 (by kernel_rfl)) .is .t (by omega) (by omega) (by rfl)) r2 r1
        (cF rfl (o_load_row0 (ag := true) (sz' := 2) (sz := 2) 102 .t (by intro x; rfl) (by omega) (by kernel_rfl) (by kernel_rfl) (by kernel_rfl)) r1 r1
        (cF rfl (o_alloc (zs := [.pointer none, .int .i64 0]) 105 (by kernel_rfl)) trivial trivial
        (cF rfl (o_storeA (sz := 2) 105 .same .t (by kernel_rfl) (by kernel_rfl) (by kernel_rfl)) r2 r1
        Chain.nil))))))))))
        (by kernel_rfl) (by rw [hB]; kernel_rfl) ?_
      clear hS; intro a w F hS
      replace hS := hS.sub
      obtain ⟨F, hS⟩ := hS.norm [(2, _), (4, _), (5, _), (7, _), (8, _), (28, _), (29, _), (30, _), (31, _), (32, _), (33, _), (34, _), (35, _), (36, _), (37, _), (38, _), (39, _), (40, _), (41, _)] [(0, _), (101, _), (102, _), (103, _), (104, _), (105, _)] ⟨rfl, rfl, rfl, rfl, rfl, rfl, rfl, rfl, rfl, rfl, rfl, rfl, rfl, rfl, rfl, rfl, rfl, rfl, rfl, trivial⟩ r6
      try dsimp only [RS.sub, SF.sub, CF.sub, csub, Anc.sub, List.map, stCells, List.length_cons, List.length_nil, Nat.reduceAdd, List.drop_succ_cons, List.drop_zero, List.drop_nil, List.take_succ_cons, List.take_zero, List.take_nil, List.cons_append, List.nil_append, zCF, ldSF, rInt, rSS, rIL, rDeedQ] at hS
      generalize Act.tau a 8 = v8 at hS
      try simp only [Int.toNat_natCast] at hS
      obtain ⟨e0, he0⟩ : ∃ e0, e0 = Go.Gm.nth ms (((Go.Gm.nth l i).src % (ms.length : Int))).toNat := ⟨_, rfl⟩
      rw [← he0] at hS
      have hm0 := hall e0 (by rw [he0]; exact nth_mem (by omega))
      have hh0 := hm0.1.high (by omega)
      have hnn0 := tSize_nn e0.2
      have hwz : IntKind.wrap .i64 (tSize e0.2 + 1) = tSize e0.2 + 1 := wrap_i64 (by omega)
      refine then_n ?_
      refine wp_seq ?_
      refine region_any (by kernel_rfl) hS (by kernel_rfl)
        (cF rfl (o_fieldAddr (off := 2) 104 .is (by kernel_rfl) (by rfl)) r1 r1
        (cF rfl (o_load (ag := false) (sz := 1) 104 .adr (by kernel_rfl) (by kernel_rfl) (by kernel_rfl) (by rfl)) r1 r1
        (cF rfl (o_load (ag := true) (sz := 2) 105 .is (by kernel_rfl) (by kernel_rfl) (by kernel_rfl) (by rfl)) r1 r1
        (cF rfl (o_callG1 101 (slen_c (some b) 65536 q e0.1 e0.2 hm0.1.rep) Try.func14 rfl (by kernel_rfl) (Args.one (.pagg .t))) r1 r1
        (cF rfl (o_add .t (.ci (by kernel_rfl))) r1 trivial
        (cF rfl (o_callP (pick07_c _ _ (by rw [hwz]; omega) (by rw [hwz]; omega)) Try.func12 rfl (by kernel_rfl) (Args.two .t .t)) r2 trivial
        (cF rfl (o_assign .t (by rfl)) r1 trivial
        Chain.nil)))))))
        (by kernel_rfl) (by rw [hB]; kernel_rfl) ?_
      clear hS; intro a w F hS
      obtain ⟨F, hS⟩ := hS.norm [(2, _), (4, _), (5, _), (7, _), (8, _), (9, _), (28, _), (29, _), (30, _), (31, _), (32, _), (33, _), (34, _), (35, _), (36, _), (37, _), (38, _), (39, _), (40, _), (41, _), (42, _), (43, _), (44, _), (45, _), (46, _), (47, _)] [(0, _), (101, _), (102, _), (103, _), (104, _), (105, _)] ⟨rfl, rfl, rfl, rfl, rfl, rfl, rfl, rfl, rfl, rfl, rfl, rfl, rfl, rfl, rfl, rfl, rfl, rfl, rfl, rfl, rfl, rfl, rfl, rfl, rfl, rfl, trivial⟩ r6
      try dsimp only [List.map, List.drop_succ_cons, List.drop_zero, List.drop_nil, List.take_succ_cons, List.take_zero, List.take_nil, ldSF, rInt, rSS, rIL, rDeedQ] at hS
      rw [hwz] at hS
      obtain ⟨j, hj⟩ : ∃ j, j = ((Go.Gm.nth l i).i % (tSize e0.2 + 1)) := ⟨_, rfl⟩
      rw [← hj] at hS
      have hj0 : 0 ≤ j := by rw [hj]; exact Int.emod_nonneg _ (by omega)
      have hj1 : j < tSize e0.2 + 1 := by rw [hj]; exact Int.emod_lt_of_pos _ (by omega)
      obtain ⟨e, rt1, hM, hk1, hel⟩ : ∃ (e : List Cell) (r : Int), qInsM 65536 q (Go.Gm.nth l i).val e0.2 e0.1 j = (q ++ e, 0, r) ∧ SeqOk (q ++ e) (insT (Go.Gm.nth l i).val e0.2 j) r ∧ (e.length : Int) ≤ 3 * (tHigh e0.2 + 1) := by rcases hm0.1.ins (room := 65536) j (Go.Gm.nth l i).val (by omega) (by omega) with h | ⟨_, h⟩; exact h; omega
      have ht1s := insT_size (Go.Gm.nth l i).val e0.2 j
      have ht1v := tVals_ins (t := e0.2) (j := j) (x := (Go.Gm.nth l i).val) (by omega)
      obtain ⟨t1, ht1⟩ : ∃ t1, t1 = insT (Go.Gm.nth l i).val e0.2 j := ⟨_, rfl⟩
      rw [← ht1] at hk1 ht1s ht1v
      have hh1 := hk1.high (by omega)
      obtain ⟨e2, rt2, hD, hk2, hel2⟩ : ∃ (e2 : List Cell) (r : Int), qDelM 65536 (q ++ e) t1 rt1 j = (q ++ e ++ e2, 0, r) ∧ SeqOk (q ++ e ++ e2) (sdelT t1 j) r ∧ (e2.length : Int) ≤ 3 * (tHigh t1 + 1) := by rcases hk1.del (room := 65536) j (by omega) (by omega) with h | ⟨_, h⟩; exact h; rw [List.length_append] at h; omega
      have ht2s := sdelT_size (t := t1) (i := j) (by omega) (by omega)
      have ht2v := tVals_del (t := t1) (j := j) (by omega)
      have hvl := tVals_len e0.2
      have hvv : tVals (sdelT t1 j) = tVals e0.2 := by rw [ht2v, ht1v]; exact ins_del (by omega)
      obtain ⟨t2, ht2⟩ : ∃ t2, t2 = sdelT t1 j := ⟨_, rfl⟩
      rw [← ht2] at hk2 ht2s hvv
      obtain ⟨q2, hq2⟩ : ∃ q2, q2 = q ++ (e ++ e2) := ⟨_, rfl⟩
      rw [List.append_assoc, ← hq2] at hD hk2
      refine then_n ?_
      refine wp_seq ?_
      refine region_seq hS (by kernel_rfl)
        (cF rfl (o_load (ag := true) (sz := 2) 105 .is (by kernel_rfl) (by kernel_rfl) (by kernel_rfl) (by rfl)) r1 r1
        (cF rfl (o_move .t (by rfl)) r1 trivial
        (cF rfl (o_fieldAddr (off := 3) 104 .is (by kernel_rfl) (by rfl)) r1 r1
        (cF rfl (o_load (ag := false) (sz := 1) 104 .adr (by kernel_rfl) (by kernel_rfl) (by kernel_rfl) (by rfl)) r1 r1
        (cF rfl (o_callG1 101 (sINS_c (some b) 65536 q e0.1 e0.2 hm0.1.rep (by omega) j (Go.Gm.nth l i).val) Try.func15 rfl (by kernel_rfl) (Args.three (.pagg .t) .t .t)) r3 r1
        (cF rfl (o_move .t (by rfl)) r1 trivial
        (cF rfl (o_extract .t rfl) r1 trivial
        (cF rfl (o_extract .t rfl) r1 trivial
        (cF rfl (o_alloc (zs := [.pointer none, .int .i64 0]) 106 (by kernel_rfl)) trivial trivial
        (cF rfl (o_storeA (sz := 2) 106 .same (.conv .t .agg) (by kernel_rfl) (by kernel_rfl) (by kernel_rfl)) r2 r1
        (cF rfl (o_assign .t (by rfl)) r1 trivial
        Chain.nil)))))))))))
        (by kernel_rfl) (by rw [hB]; kernel_rfl) ?_
      clear hS; intro a w F hS
      replace hS := hS.sub
      obtain ⟨F, hS⟩ := hS.norm [(2, _), (4, _), (5, _), (7, _), (8, _), (9, _), (10, _), (11, _), (28, _), (29, _), (30, _), (31, _), (32, _), (33, _), (34, _), (35, _), (36, _), (37, _), (38, _), (39, _), (40, _), (41, _), (42, _), (43, _), (44, _), (45, _), (46, _), (47, _), (48, _), (49, _), (50, _), (51, _), (52, _), (53, _), (54, _), (55, _)] [(0, _), (101, _), (102, _), (103, _), (104, _), (105, _), (106, _)] ⟨rfl, rfl, rfl, rfl, rfl, rfl, rfl, rfl, rfl, rfl, rfl, rfl, rfl, rfl, rfl, rfl, rfl, rfl, rfl, rfl, rfl, rfl, rfl, rfl, rfl, rfl, rfl, rfl, rfl, rfl, rfl, rfl, rfl, rfl, rfl, rfl, trivial⟩ r7
      try dsimp only [RS.sub, SF.sub, CF.sub, csub, Anc.sub, List.map, stCells, List.length_cons, List.length_nil, Nat.reduceAdd, List.drop_succ_cons, List.drop_zero, List.drop_nil, List.take_succ_cons, List.take_zero, List.take_nil, List.cons_append, List.nil_append, zCF, ldSF, rInt, rSS, rIL, rDeedQ] at hS
      generalize Act.tau a 10 = v10 at hS
      rw [hM] at hS
      refine then_n ?_
      refine wp_seq ?_
      refine region_seq hS (by kernel_rfl)
        (cF rfl (o_load (ag := true) (sz := 2) 106 .is (by kernel_rfl) (by kernel_rfl) (by kernel_rfl) (by rfl)) r1 r1
        (cF rfl (o_move .t (by rfl)) r1 trivial
        (cF rfl (o_callG1 101 (sDEL_c (some b) 65536 (q ++ e) rt1 t1 hk1.rep (by omega) j) Try.func16 rfl (by kernel_rfl) (Args.two (.pagg .t) .t)) r2 r1
        (cF rfl (o_move .t (by rfl)) r1 trivial
        (cF rfl (o_extract .t rfl) r1 trivial
        (cF rfl (o_extract .t rfl) r1 trivial
        (cF rfl (o_alloc (zs := [.pointer none, .int .i64 0]) 107 (by kernel_rfl)) trivial trivial
        (cF rfl (o_storeA (sz := 2) 107 .same (.conv .t .agg) (by kernel_rfl) (by kernel_rfl) (by kernel_rfl)) r2 r1
        (cF rfl (o_assign .t (by rfl)) r1 trivial
        Chain.nil)))))))))
        (by kernel_rfl) (by rw [hB]; kernel_rfl) ?_
      clear hS; intro a w F hS
      replace hS := hS.sub
      obtain ⟨F, hS⟩ := hS.norm [(2, _), (4, _), (5, _), (7, _), (8, _), (9, _), (10, _), (11, _), (12, _), (13, _), (28, _), (29, _), (30, _), (31, _), (32, _), (33, _), (34, _), (35, _), (36, _), (37, _), (38, _), (39, _), (40, _), (41, _), (42, _), (43, _), (44, _), (45, _), (46, _), (47, _), (48, _), (49, _), (50, _), (51, _), (52, _), (53, _), (54, _), (55, _), (56, _), (57, _), (58, _), (59, _), (60, _), (61, _)] [(0, _), (101, _), (102, _), (103, _), (104, _), (105, _), (106, _), (107, _)] ⟨rfl, rfl, rfl, rfl, rfl, rfl, rfl, rfl, rfl, rfl, rfl, rfl, rfl, rfl, rfl, rfl, rfl, rfl, rfl, rfl, rfl, rfl, rfl, rfl, rfl, rfl, rfl, rfl, rfl, rfl, rfl, rfl, rfl, rfl, rfl, rfl, rfl, rfl, rfl, rfl, rfl, rfl, rfl, rfl, trivial⟩ r8
      try dsimp only [RS.sub, SF.sub, CF.sub, csub, Anc.sub, List.map, stCells, List.length_cons, List.length_nil, Nat.reduceAdd, List.drop_succ_cons, List.drop_zero, List.drop_nil, List.take_succ_cons, List.take_zero, List.take_nil, List.cons_append, List.nil_append, zCF, ldSF, rInt, rSS, rIL, rDeedQ] at hS
      generalize Act.tau a 12 = v12 at hS
      rw [hD] at hS
      refine then_n ?_
      refine wp_seq ?_
      refine wp_seq ?_
      refine region_any (by kernel_rfl) hS (by kernel_rfl)
        (cF rfl (o_move .t (by rfl)) r1 trivial
        (cF rfl (o_neq .t (.ci (by kernel_rfl))) r1 trivial
        (cF rfl (o_move .t (by rfl)) r1 trivial
        (Chain.cons (Cert.cond rfl rfl (fun h => o_move .t (by rfl))) r2 trivial
        (Chain.cons (Cert.cond rfl rfl (fun h => o_neq (.w h) (.ci (by kernel_rfl)))) r2 trivial
        (cF rfl (o_or2 .t .t) r2 trivial
        (cF rfl (o_move .t (by rfl)) r1 trivial
        (Chain.cons (Cert.cond rfl rfl (fun h => o_load (ag := true) (sz := 2) 107 .is (by kernel_rfl) (by kernel_rfl) (by kernel_rfl) (by rfl))) r2 r1
        (Chain.cons (Cert.condR rfl rfl (by rfl) (fun h => o_callG1 101 (sList_c (some b) 65536 q2 rt2 t2 hk2.rep (by omega)) Try.func18 rfl (by kernel_rfl) (Args.one (.pagg (.w h))))) r2 r1
        (Chain.cons (Cert.cond rfl rfl (fun h => o_load (ag := true) (sz := 2) 105 .is (by kernel_rfl) (by kernel_rfl) (by kernel_rfl) (by rfl))) r2 r1
        (Chain.cons (Cert.condR rfl rfl (by rfl) (fun h => o_callG1 101 (sList_c (some b) 65536 q2 e0.1 e0.2 (by rw [hq2]; exact hm0.1.rep.app _) (by omega)) Try.func18 rfl (by kernel_rfl) (Args.one (.pagg (.w h))))) r2 r1
        (Chain.cons (Cert.cond rfl rfl (fun h => o_callP (sameInts_c _ _) Try.func17 rfl (by kernel_rfl) (Args.two (.w h) (.w h)))) r3 trivial
        (Chain.cons (Cert.cond rfl rfl (fun h => o_not (.w h))) r2 trivial
        (cF rfl (o_or2 .t .t) r2 trivial
        (cF rfl (o_move .t (by rfl)) r1 trivial
        (Chain.cons (Cert.cond rfl rfl (fun h => o_load (ag := true) (sz := 2) 106 .is (by kernel_rfl) (by kernel_rfl) (by kernel_rfl) (by rfl))) r2 r1
        (Chain.cons (Cert.condR rfl rfl (by rfl) (fun h => o_callG1 101 (slen_c (some b) 65536 q2 rt1 t1 (by rw [hq2, ← List.append_assoc]; exact hk1.rep.app _)) Try.func14 rfl (by kernel_rfl) (Args.one (.pagg (.w h))))) r2 r1
        (Chain.cons (Cert.cond rfl rfl (fun h => o_load (ag := true) (sz := 2) 105 .is (by kernel_rfl) (by kernel_rfl) (by kernel_rfl) (by rfl))) r2 r1
        (Chain.cons (Cert.condR rfl rfl (by rfl) (fun h => o_callG1 101 (slen_c (some b) 65536 q2 e0.1 e0.2 (by rw [hq2]; exact hm0.1.rep.app _)) Try.func14 rfl (by kernel_rfl) (Args.one (.pagg (.w h))))) r2 r1
        (Chain.cons (Cert.cond rfl rfl (fun h => o_add (.w h) (.ci (by kernel_rfl)))) r2 trivial
        (Chain.cons (Cert.cond rfl rfl (fun h => o_neq (.w h) (.w h))) r3 trivial
        (cF rfl (o_or2 .t .t) r2 trivial
        Chain.nil))))))))))))))))))))))
        (by kernel_rfl) (by rw [hB]; kernel_rfl) ?_
      clear hS; intro a w F hS
      obtain ⟨F, hS⟩ := hS.norm [(2, _), (4, _), (5, _), (7, _), (8, _), (9, _), (10, _), (11, _), (12, _), (13, _), (28, _), (29, _), (30, _), (31, _), (32, _), (33, _), (34, _), (35, _), (36, _), (37, _), (38, _), (39, _), (40, _), (41, _), (42, _), (43, _), (44, _), (45, _), (46, _), (47, _), (48, _), (49, _), (50, _), (51, _), (52, _), (53, _), (54, _), (55, _), (56, _), (57, _), (58, _), (59, _), (60, _), (61, _), (62, _), (63, _), (64, _), (65, _), (66, _), (67, _), (68, _), (69, _), (70, _), (71, _), (72, _), (73, _), (74, _), (75, _), (76, _), (77, _), (78, _), (79, _), (80, _), (81, _), (82, _), (83, _)] [(0, _), (101, _), (102, _), (103, _), (104, _), (105, _), (106, _), (107, _)] ⟨rfl, rfl, rfl, rfl, rfl, rfl, rfl, rfl, rfl, rfl, rfl, rfl, rfl, rfl, rfl, rfl, rfl, rfl, rfl, rfl, rfl, rfl, rfl, rfl, rfl, rfl, rfl, rfl, rfl, rfl, rfl, rfl, rfl, rfl, rfl, rfl, rfl, rfl, rfl, rfl, rfl, rfl, rfl, rfl, rfl, rfl, rfl, rfl, rfl, rfl, rfl, rfl, rfl, rfl, rfl, rfl, rfl, rfl, rfl, rfl, rfl, rfl, rfl, rfl, rfl, rfl, trivial⟩ r8
      try dsimp only [List.map, List.drop_succ_cons, List.drop_zero, List.drop_nil, List.take_succ_cons, List.take_zero, List.take_nil, ldSF, rInt, rSS, rIL, rDeedQ] at hS
      refine then_n ?_
      refine cond_b hS rfl (fun hc4 => ?_) (fun hc4 => ?_)
      ·skip
       exfalso
       rw [hwz] at hc4
       simp [hvv, ht1s] at hc4
      ·skip
       have hC2 : (ms ++ [(rt1, t1)]).length = i + 1 + 1 ∧ SeqsOk q2 (i + 1) (ms ++ [(rt1, t1)]) ∧ ls ++ [tVals t1] = (ms ++ [(rt1, t1)]).map (fun e => tVals e.2) ∧ (q2.length : Int) ≤ 246 * ((i + 1 : Nat) : Int) := ⟨by rw [List.length_append, hml]; rfl, hall.add hq2 (by rw [hq2, ← List.append_assoc]; exact hk1.app) (by show tSize t1 ≤ _; omega), by rw [hls, List.map_append]; rfl, by rw [hq2, List.length_append, List.length_append]; omega⟩
       refine wp_skip ?_
       refine then_n ?_
       refine wp_seq ?_
       refine region_seq hS (by kernel_rfl)
         (cF rfl (o_move .t (by rfl)) r1 trivial
         (cF rfl (o_load (ag := true) (sz := 2) 106 .is (by kernel_rfl) (by kernel_rfl) (by kernel_rfl) (by rfl)) r1 r1
         (cF rfl (o_buildSliceE (sz := 2) (zs := [.pointer none, .int .i64 0]) (r := [(0, .tmp 85)]) (l := [_, _]) Try.underlying40 (by kernel_rfl) (by kernel_rfl) (by kernel_rfl) (by kernel_rfl) rfl rfl (.agg rfl .t (by kernel_rfl) (by kernel_rfl) .nil) rfl) r1 trivial
         (cF rfl (o_append (sz := 2) (bs := 16) 102 (.mk' Try.underlying40 (by kernel_rfl) (by kernel_rfl)) (by intro x; rfl) .is (.arr (l' := [(rt1, t1)]) .t) (by simp only [List.length_cons, List.length_nil]; omega) (by decide)) ⟨rfl, rfl, trivial⟩ ⟨rfl, trivial⟩
         (cF rfl (o_assign .t (by rfl)) r1 trivial
         Chain.nil)))))
         (by kernel_rfl) (by rw [hB]; kernel_rfl) ?_
       clear hS; intro a w F hS
       replace hS := hS.sub
       obtain ⟨F, hS⟩ := hS.norm [(2, _), (4, _), (5, _), (7, _), (8, _), (9, _), (10, _), (11, _), (12, _), (13, _), (28, _), (29, _), (30, _), (31, _), (32, _), (33, _), (34, _), (35, _), (36, _), (37, _), (38, _), (39, _), (40, _), (41, _), (42, _), (43, _), (44, _), (45, _), (46, _), (47, _), (48, _), (49, _), (50, _), (51, _), (52, _), (53, _), (54, _), (55, _), (56, _), (57, _), (58, _), (59, _), (60, _), (61, _), (62, _), (63, _), (64, _), (65, _), (66, _), (67, _), (68, _), (69, _), (70, _), (71, _), (72, _), (73, _), (74, _), (75, _), (76, _), (77, _), (78, _), (79, _), (80, _), (81, _), (82, _), (83, _), (84, _), (85, _), (86, _), (87, _)] [(0, _), (101, _), (102, _), (103, _), (104, _), (105, _), (106, _), (107, _)] ⟨rfl, rfl, rfl, rfl, rfl, rfl, rfl, rfl, rfl, rfl, rfl, rfl, rfl, rfl, rfl, rfl, rfl, rfl, rfl, rfl, rfl, rfl, rfl, rfl, rfl, rfl, rfl, rfl, rfl, rfl, rfl, rfl, rfl, rfl, rfl, rfl, rfl, rfl, rfl, rfl, rfl, rfl, rfl, rfl, rfl, rfl, rfl, rfl, rfl, rfl, rfl, rfl, rfl, rfl, rfl, rfl, rfl, rfl, rfl, rfl, rfl, rfl, rfl, rfl, rfl, rfl, rfl, rfl, rfl, rfl, trivial⟩ r8
       try dsimp only [RS.sub, SF.sub, CF.sub, csub, Anc.sub, List.map, stCells, List.length_cons, List.length_nil, Nat.reduceAdd, List.drop_succ_cons, List.drop_zero, List.drop_nil, List.take_succ_cons, List.take_zero, List.take_nil, List.cons_append, List.nil_append, zCF, ldSF, rInt, rSS, rIL, rDeedQ] at hS
       generalize Act.tau a 87 = v87 at hS
       refine then_n ?_
       refine region_seq hS (by kernel_rfl)
         (cF rfl (o_move .t (by rfl)) r1 trivial
         (cF rfl (o_load (ag := true) (sz := 2) 106 .is (by kernel_rfl) (by kernel_rfl) (by kernel_rfl) (by rfl)) r1 r1
         (cF rfl (o_callG1 101 (sList_c (some b) 65536 q2 rt1 t1 (by rw [hq2, ← List.append_assoc]; exact hk1.rep.app _) (by omega)) Try.func18 rfl (by kernel_rfl) (Args.one (.pagg .t))) r1 r1
         (cF rfl (o_buildSliceE (sz := 1) (zs := [.slice none 0 0]) (r := [(0, .tmp 90)]) (l := [_]) Try.underlying41 (by kernel_rfl) (by kernel_rfl) (by kernel_rfl) (by kernel_rfl) rfl rfl (.one rfl .t one_sl (by kernel_rfl) .nil) rfl) r1 trivial
         (cF rfl (o_append (sz := 1) (bs := 24) 103 (.mk' Try.underlying41 (by kernel_rfl) (by kernel_rfl)) (by intro x; rfl) .is (.arr (l' := [tVals t1]) .t) (by simp only [List.length_cons, List.length_nil]; omega) (by decide)) ⟨rfl, rfl, trivial⟩ ⟨rfl, trivial⟩
         (cF rfl (o_assign .t (by rfl)) r1 trivial
         Chain.nil))))))
         (by kernel_rfl) (by rw [hB]; kernel_rfl) ?_
       clear hS; intro a w F hS
       replace hS := hS.sub
       obtain ⟨F, hS⟩ := hS.norm [(2, _), (4, _), (5, _), (7, _), (8, _), (9, _), (10, _), (11, _), (12, _), (13, _), (28, _), (29, _), (30, _), (31, _), (32, _), (33, _), (34, _), (35, _), (36, _), (37, _), (38, _), (39, _), (40, _), (41, _), (42, _), (43, _), (44, _), (45, _), (46, _), (47, _), (48, _), (49, _), (50, _), (51, _), (52, _), (53, _), (54, _), (55, _), (56, _), (57, _), (58, _), (59, _), (60, _), (61, _), (62, _), (63, _), (64, _), (65, _), (66, _), (67, _), (68, _), (69, _), (70, _), (71, _), (72, _), (73, _), (74, _), (75, _), (76, _), (77, _), (78, _), (79, _), (80, _), (81, _), (82, _), (83, _), (84, _), (85, _), (86, _), (87, _), (88, _), (89, _), (90, _), (91, _), (92, _)] [(0, _), (101, _), (102, _), (103, _), (104, _), (105, _), (106, _), (107, _)] ⟨rfl, rfl, rfl, rfl, rfl, rfl, rfl, rfl, rfl, rfl, rfl, rfl, rfl, rfl, rfl, rfl, rfl, rfl, rfl, rfl, rfl, rfl, rfl, rfl, rfl, rfl, rfl, rfl, rfl, rfl, rfl, rfl, rfl, rfl, rfl, rfl, rfl, rfl, rfl, rfl, rfl, rfl, rfl, rfl, rfl, rfl, rfl, rfl, rfl, rfl, rfl, rfl, rfl, rfl, rfl, rfl, rfl, rfl, rfl, rfl, rfl, rfl, rfl, rfl, rfl, rfl, rfl, rfl, rfl, rfl, rfl, rfl, rfl, rfl, rfl, trivial⟩ r8
       try dsimp only [RS.sub, SF.sub, CF.sub, csub, Anc.sub, List.map, stCells, List.length_cons, List.length_nil, Nat.reduceAdd, List.drop_succ_cons, List.drop_zero, List.drop_nil, List.take_succ_cons, List.take_zero, List.take_nil, List.cons_append, List.nil_append, zCF, ldSF, rInt, rSS, rIL, rDeedQ] at hS
       generalize Act.tau a 92 = v92 at hS
       refine block_n ?_
       refine then_n ?_
       refine region_seq hS (by kernel_rfl)
         (cF rfl (o_add .t (.ci (by kernel_rfl))) r1 trivial
         (cF rfl (o_move .t (by rfl)) r1 trivial
         Chain.nil))
         (by kernel_rfl) (by rw [hB]; kernel_rfl) ?_
       clear hS; intro a w F hS
       obtain ⟨F, hS⟩ := hS.norm [(2, _), (4, _), (5, _), (7, _), (8, _), (9, _), (10, _), (11, _), (12, _), (13, _), (28, _), (29, _), (30, _), (31, _), (32, _), (33, _), (34, _), (35, _), (36, _), (37, _), (38, _), (39, _), (40, _), (41, _), (42, _), (43, _), (44, _), (45, _), (46, _), (47, _), (48, _), (49, _), (50, _), (51, _), (52, _), (53, _), (54, _), (55, _), (56, _), (57, _), (58, _), (59, _), (60, _), (61, _), (62, _), (63, _), (64, _), (65, _), (66, _), (67, _), (68, _), (69, _), (70, _), (71, _), (72, _), (73, _), (74, _), (75, _), (76, _), (77, _), (78, _), (79, _), (80, _), (81, _), (82, _), (83, _), (84, _), (85, _), (86, _), (87, _), (88, _), (89, _), (90, _), (91, _), (92, _), (93, _)] [(0, _), (101, _), (102, _), (103, _), (104, _), (105, _), (106, _), (107, _)] ⟨rfl, rfl, rfl, rfl, rfl, rfl, rfl, rfl, rfl, rfl, rfl, rfl, rfl, rfl, rfl, rfl, rfl, rfl, rfl, rfl, rfl, rfl, rfl, rfl, rfl, rfl, rfl, rfl, rfl, rfl, rfl, rfl, rfl, rfl, rfl, rfl, rfl, rfl, rfl, rfl, rfl, rfl, rfl, rfl, rfl, rfl, rfl, rfl, rfl, rfl, rfl, rfl, rfl, rfl, rfl, rfl, rfl, rfl, rfl, rfl, rfl, rfl, rfl, rfl, rfl, rfl, rfl, rfl, rfl, rfl, rfl, rfl, rfl, rfl, rfl, rfl, trivial⟩ r8
       try dsimp only [rInt, rSS, rIL, rDeedQ] at hS
       refine then_n ?_
       replace hS := hS.ent (i := 30) (s' := .pv (.int .i64 ((i + 1 : Nat) : Int))) rfl (.int (wrap_succ (by omega)))
       obtain ⟨F, hS⟩ := hS.norm [(30, _), (4, _), (5, _), (2, _), (28, _), (29, _)] [(101, _), (102, _), (103, _), (0, _)] ⟨rfl, rfl, rfl, rfl, rfl, rfl, trivial⟩ ⟨rfl, rfl, rfl, rfl, trivial⟩
       exact ⟨((i + 1), (q2), _, (ms ++ [(rt1, t1)]), _, (ls ++ [tVals t1])), F, ⟨by omega, hC2⟩, hS, by omega⟩
     ·skip
      have hil : i = l.length := by simp at hc3; omega
      refine wp_exit ?_
      refine then_x ?_
      refine then_x ?_
      refine block_x ?_
      refine then_n ?_
      refine wp_seq ?_
      refine wp_seq ?_
      refine region_seq hS (by kernel_rfl)
        (cF rfl (o_move .t (by rfl)) r1 trivial
        (cF rfl (o_len_row 102 Try.underlying40 .is) r1 r1
        (cF rfl (o_move (.ci (by kernel_rfl)) (by rfl)) trivial trivial
        Chain.nil)))
        (by kernel_rfl) (by rw [hB]; kernel_rfl) ?_
      clear hS; intro a w F hS
      obtain ⟨F, hS⟩ := hS.norm [(2, _), (5, _), (94, _), (95, _), (96, _)] [(0, _), (101, _), (102, _), (103, _)] r5 r4
      try dsimp only [rInt, rSS, rIL, rDeedQ] at hS
      refine then_n ?_
      refine wp_block ?_
      refine loop_keep (σ := (Nat)) [2, 5, 94, 95] [0, 101, 102, 103] (fun s => [(96, .pv (.int .i64 (s : Int)))]) (fun s => []) (fun s => s ≤ ms.length ∧ (True)) (fun s => ms.length - s) (0) hS ⟨rfl, rfl, rfl, rfl, rfl, trivial⟩ ⟨rfl, rfl, rfl, rfl, trivial⟩ ⟨Nat.zero_le _, trivial⟩ ?_
      clear hS; intro k a w F hC hS
      try dsimp only at hC
      obtain ⟨F, hS⟩ := hS.norm [(2, _), (5, _), (94, _), (95, _), (96, _)] [(0, _), (101, _), (102, _), (103, _)] r5 r4
      try dsimp only at hS
      obtain ⟨hi, hq⟩ := hC
      refine wp_seq ?_
      refine region_seq hS (by kernel_rfl)
        (cF rfl (o_lss .t .t) r2 trivial
        Chain.nil)
        (by kernel_rfl) (by rw [hB]; kernel_rfl) ?_
      clear hS; intro a w F hS
      obtain ⟨F, hS⟩ := hS.norm [(2, _), (5, _), (94, _), (95, _), (96, _), (97, _)] [(0, _), (101, _), (102, _), (103, _)] r6 r4
      try dsimp only [rInt, rSS, rIL, rDeedQ] at hS
      refine then_n ?_
      refine wp_seq ?_
      refine cond_b hS rfl (fun hc5 => ?_) (fun hc5 => ?_)
      ·skip
       have hil : k < ms.length := by simp at hc5; omega
       refine wp_skip ?_
       refine then_n ?_
       refine wp_seq ?_
       refine wp_block ?_
       refine wp_seq ?_
       refine region_seq hS (by kernel_rfl)
         (cF rfl (o_move .t (by rfl)) r1 trivial
         (cF rfl (o_indexAddr_row (sz := 2) 102 (.mk Try.underlying40 (by kernel_rfl)) .is .t (by omega) (by omega) (by rfl)) r2 r1
         (cF rfl (o_load_row0 (ag := true) (sz' := 2) (sz := 2) 102 .t (by intro x; rfl) (by omega) (by kernel_rfl) (by kernel_rfl) (by kernel_rfl)) r1 r1
         (cF rfl (o_alloc (zs := [.pointer none, .int .i64 0]) 108 (by kernel_rfl)) trivial trivial
         (cF rfl (o_assign .t (by rfl)) r1 trivial
         (cF rfl (o_storeA (sz := 2) 108 .same .t (by kernel_rfl) (by kernel_rfl) (by kernel_rfl)) r2 r1
         Chain.nil))))))
         (by kernel_rfl) (by rw [hB]; kernel_rfl) ?_
       clear hS; intro a w F hS
       replace hS := hS.sub
       obtain ⟨F, hS⟩ := hS.norm [(2, _), (5, _), (14, _), (15, _), (94, _), (95, _), (96, _), (97, _), (98, _), (99, _), (100, _)] [(0, _), (101, _), (102, _), (103, _), (108, _)] ⟨rfl, rfl, rfl, rfl, rfl, rfl, rfl, rfl, rfl, rfl, rfl, trivial⟩ r5
       try dsimp only [RS.sub, SF.sub, CF.sub, csub, Anc.sub, List.map, stCells, List.length_cons, List.length_nil, Nat.reduceAdd, List.drop_succ_cons, List.drop_zero, List.drop_nil, List.take_succ_cons, List.take_zero, List.take_nil, List.cons_append, List.nil_append, zCF, ldSF, rInt, rSS, rIL, rDeedQ] at hS
       generalize Act.tau a 15 = v15 at hS
       try simp only [Int.toNat_natCast] at hS
       obtain ⟨x, hxe⟩ : ∃ x, x = Go.Gm.nth ms k := ⟨_, rfl⟩
       rw [← hxe] at hS
       have hx := hall x (by rw [hxe]; exact nth_mem hil)
       have hxl : Go.Gm.nth ls k = tVals x.2 := by rw [hls, hxe]; exact nth_map2 (fun e : Int × Tree => tVals e.2) hil
       have hh0 := hx.1.high (by omega)
       refine then_n ?_
       refine wp_seq ?_
       refine region_any (by kernel_rfl) hS (by kernel_rfl)
         (cF rfl (o_load (ag := true) (sz := 2) 108 .is (by kernel_rfl) (by kernel_rfl) (by kernel_rfl) (by rfl)) r1 r1
         (cF rfl (o_callG1 101 (sList_c (some b) 65536 q x.1 x.2 hx.1.rep (by omega)) Try.func18 rfl (by kernel_rfl) (Args.one (.pagg .t))) r1 r1
         (cF rfl (o_move .t (by rfl)) r1 trivial
         (cF rfl (o_move .t (by rfl)) r1 trivial
         (cF rfl (o_indexAddr_row (sz := 1) 103 (.mk Try.underlying41 (by kernel_rfl)) .is .t (by omega) (by omega) (by rfl)) r2 r1
         (cF rfl (o_load_row0 (ag := false) (sz' := 1) (sz := 1) 103 .t (by intro x; rfl) (by omega) (by kernel_rfl) (by kernel_rfl) (by kernel_rfl)) r1 r1
         (cF rfl (o_callP (sameInts_c _ _) Try.func17 rfl (by kernel_rfl) (Args.two .t .t)) r2 trivial
         (cF rfl (o_not .t) r1 trivial
         (cF rfl (o_move .t (by rfl)) r1 trivial
         (Chain.cons (Cert.cond rfl rfl (fun h => o_load (ag := true) (sz := 2) 108 .is (by kernel_rfl) (by kernel_rfl) (by kernel_rfl) (by rfl))) r2 r1
         (Chain.cons (Cert.condR rfl rfl (by rfl) (fun h => o_callG1 101 (shigh_c (some b) 65536 q x.1 x.2 hx.1.rep) Try.func19 rfl (by kernel_rfl) (Args.one (.pagg (.w h))))) r2 r1
         (Chain.cons (Cert.cond rfl rfl (fun h => o_lss (.w h) (.ci (by kernel_rfl)))) r2 trivial
         (cF rfl (o_or2 .t .t) r2 trivial
         (cF rfl (o_move .t (by rfl)) r1 trivial
         (Chain.cons (Cert.cond rfl rfl (fun h => o_load (ag := true) (sz := 2) 108 .is (by kernel_rfl) (by kernel_rfl) (by kernel_rfl) (by rfl))) r2 r1
         (Chain.cons (Cert.condR rfl rfl (by rfl) (fun h => o_callG1 101 (shigh_c (some b) 65536 q x.1 x.2 hx.1.rep) Try.func19 rfl (by kernel_rfl) (Args.one (.pagg (.w h))))) r2 r1
         (Chain.cons (Cert.cond rfl rfl (fun h => o_gtr (.w h) (.ci (by kernel_rfl)))) r2 trivial
         (cF rfl (o_or2 .t .t) r2 trivial
         (cF rfl (o_move .t (by rfl)) r1 trivial
         (Chain.cons (Cert.cond rfl rfl (fun h => o_load (ag := true) (sz := 2) 108 .is (by kernel_rfl) (by kernel_rfl) (by kernel_rfl) (by rfl))) r2 r1
         (Chain.cons (Cert.condR rfl rfl (by rfl) (fun h => o_callG1 101 (shigh_c (some b) 65536 q x.1 x.2 hx.1.rep) Try.func19 rfl (by kernel_rfl) (Args.one (.pagg (.w h))))) r2 r1
         (Chain.cons (Cert.cond rfl rfl (fun h => o_conv Try.underlying49 (by kernel_rfl) (.w h))) r2 trivial
         (Chain.cons (Cert.cond rfl rfl (fun h => o_shl (.ci (by kernel_rfl)) (.w h) (by rw [wrap_u64 (by omega)]; omega))) r2 trivial
         (Chain.cons (Cert.cond rfl rfl (fun h => o_load (ag := true) (sz := 2) 108 .is (by kernel_rfl) (by kernel_rfl) (by kernel_rfl) (by rfl))) r2 r1
         (Chain.cons (Cert.condR rfl rfl (by rfl) (fun h => o_callG1 101 (slen_c (some b) 65536 q x.1 x.2 hx.1.rep) Try.func14 rfl (by kernel_rfl) (Args.one (.pagg (.w h))))) r2 r1
         (Chain.cons (Cert.cond rfl rfl (fun h => o_add (.w h) (.ci (by kernel_rfl)))) r2 trivial
         (Chain.cons (Cert.cond rfl rfl (fun h => o_load (ag := true) (sz := 2) 108 .is (by kernel_rfl) (by kernel_rfl) (by kernel_rfl) (by rfl))) r2 r1
         (Chain.cons (Cert.condR rfl rfl (by rfl) (fun h => o_callG1 101 (slen_c (some b) 65536 q x.1 x.2 hx.1.rep) Try.func14 rfl (by kernel_rfl) (Args.one (.pagg (.w h))))) r2 r1
         (Chain.cons (Cert.cond rfl rfl (fun h => o_add (.w h) (.ci (by kernel_rfl)))) r2 trivial
         (Chain.cons (Cert.cond rfl rfl (fun h => o_mul (.w h) (.w h))) r3 trivial
         (Chain.cons (Cert.cond rfl rfl (fun h => o_gtr (.w h) (.w h))) r3 trivial
         (cF rfl (o_or2 .t .t) r2 trivial
         Chain.nil))))))))))))))))))))))))))))))))
         (by kernel_rfl) (by rw [hB]; kernel_rfl) ?_
       clear hS; intro a w F hS
       obtain ⟨F, hS⟩ := hS.norm [(2, _), (5, _), (14, _), (15, _), (94, _), (95, _), (96, _), (97, _), (98, _), (99, _), (100, _), (101, _), (102, _), (103, _), (104, _), (105, _), (106, _), (107, _), (108, _), (109, _), (110, _), (111, _), (112, _), (113, _), (114, _), (115, _), (116, _), (117, _), (118, _), (119, _), (120, _), (121, _), (122, _), (123, _), (124, _), (125, _), (126, _), (127, _), (128, _), (129, _), (130, _), (131, _), (132, _)] [(0, _), (101, _), (102, _), (103, _), (108, _)] ⟨rfl, rfl, rfl, rfl, rfl, rfl, rfl, rfl, rfl, rfl, rfl, rfl, rfl, rfl, rfl, rfl, rfl, rfl, rfl, rfl, rfl, rfl, rfl, rfl, rfl, rfl, rfl, rfl, rfl, rfl, rfl, rfl, rfl, rfl, rfl, rfl, rfl, rfl, rfl, rfl, rfl, rfl, rfl, trivial⟩ r5
       try dsimp only [List.map, List.drop_succ_cons, List.drop_zero, List.drop_nil, List.take_succ_cons, List.take_zero, List.take_nil, ldSF, rInt, rSS, rIL, rDeedQ] at hS
       try simp only [Int.toNat_natCast] at hS
       refine then_n ?_
       refine cond_b hS rfl (fun hc6 => ?_) (fun hc6 => ?_)
       ·skip
        have h1 := shl_high hx.1.bal (by omega)
        simp only [Bool.or_eq_true, decide_eq_true_eq, Bool.not_eq_true'] at hc6
        rcases hc6 with ((h2 | h2) | h2) | h2
        ·simp [hxl] at h2
        ·omega
        ·omega
        ·exact (h1 h2).elim
       ·skip
        refine wp_skip ?_
        refine block_n ?_
        refine then_n ?_
        refine region_seq hS (by kernel_rfl)
          (cF rfl (o_add .t (.ci (by kernel_rfl))) r1 trivial
          (cF rfl (o_move .t (by rfl)) r1 trivial
          Chain.nil))
          (by kernel_rfl) (by rw [hB]; kernel_rfl) ?_
        clear hS; intro a w F hS
        obtain ⟨F, hS⟩ := hS.norm [(2, _), (5, _), (14, _), (15, _), (94, _), (95, _), (96, _), (97, _), (98, _), (99, _), (100, _), (101, _), (102, _), (103, _), (104, _), (105, _), (106, _), (107, _), (108, _), (109, _), (110, _), (111, _), (112, _), (113, _), (114, _), (115, _), (116, _), (117, _), (118, _), (119, _), (120, _), (121, _), (122, _), (123, _), (124, _), (125, _), (126, _), (127, _), (128, _), (129, _), (130, _), (131, _), (132, _), (133, _)] [(0, _), (101, _), (102, _), (103, _), (108, _)] ⟨rfl, rfl, rfl, rfl, rfl, rfl, rfl, rfl, rfl, rfl, rfl, rfl, rfl, rfl, rfl, rfl, rfl, rfl, rfl, rfl, rfl, rfl, rfl, rfl, rfl, rfl, rfl, rfl, rfl, rfl, rfl, rfl, rfl, rfl, rfl, rfl, rfl, rfl, rfl, rfl, rfl, rfl, rfl, rfl, trivial⟩ r5
        try dsimp only [rInt, rSS, rIL, rDeedQ] at hS
        refine then_n ?_
        replace hS := hS.ent (i := 96) (s' := .pv (.int .i64 ((k + 1 : Nat) : Int))) rfl (.int (wrap_succ (by omega)))
        obtain ⟨F, hS⟩ := hS.norm [(96, _), (2, _), (5, _), (94, _), (95, _)] [(0, _), (101, _), (102, _), (103, _)] ⟨rfl, rfl, rfl, rfl, rfl, trivial⟩ ⟨rfl, rfl, rfl, rfl, trivial⟩
        exact ⟨(k + 1), F, ⟨by omega, trivial⟩, hS, by omega⟩
      ·skip
       have hil : k = ms.length := by simp at hc5; omega
       refine wp_exit ?_
       refine then_x ?_
       refine then_x ?_
       refine block_x ?_
       refine then_n ?_
       refine wp_seq ?_
       refine region_seq hS (by kernel_rfl)
         (cF rfl (o_assign .cb (by rfl)) trivial trivial
         Chain.nil)
         (by kernel_rfl) (by rw [hB]; kernel_rfl) ?_
       clear hS; intro a w F hS
       obtain ⟨F, hS⟩ := hS.norm [(2, _)] [(0, _), (101, _), (102, _), (103, _)] r1 r4
       try dsimp only [rInt, rSS, rIL, rDeedQ] at hS
       refine then_n ?_
       refine wp_ret ?_
       refine ret_P hfr hS rfl (.tmp rfl .nil) (.one (.bool rfl))

end Go.Proofs.Ytdfpljecogijaaa
