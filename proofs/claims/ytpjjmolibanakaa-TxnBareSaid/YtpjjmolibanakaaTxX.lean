/- Texts. No condition beyond those that each theorem says. -/
import Derived.Test.YtpjjmolibanakaaTxO
namespace Go.Proofs.Ytpjjmolibanakaa
open Go Go.Gm
set_option linter.unusedVariables false
set_option linter.unusedSimpArgs false
set_option maxHeartbeats 4000000
set_option maxRecDepth 8000


theorem Sat.aggInt {B : Base} {E : En} {a : Act} {w : World} {F : Fp} (h : Sat B E a w F) {i : Nat} {l : List PV} {k : Nat} {x : Int} (hl : Go.Gm.look E.s i = some (SF.pv (PV.agg l))) (hk : l[k]? = some (.int .i64 x)) : inR .i64 x := by
  obtain ⟨vs, _, hv⟩ := h.s i _ hl
  obtain ⟨v, _, h2⟩ := PVs.at hv hk
  exact h2.2

def opsT (l : List OpD) : List UInt8 := l.flatMap fun o => 32 :: textO o
def headT (t : TxD) : List UInt8 := textL t.id ++ (if t.done = true then [32, 99] else [32, 97])
def textT (t : TxD) : List UInt8 := headT t ++ opsT t.ops
theorem opsT_len : ∀ l : List OpD, (opsT l).length ≤ 101 * l.length
  | [] => by simp [opsT]
  | o :: l => by
    have h1 := opsT_len l
    have h2 : (textO o).length ≤ 100 := by
      by_cases hk : rightO o = true
      · exact textO_len hk
      · unfold textO; rw [if_pos (by simpa using hk)]; simp
    unfold opsT at h1 ⊢
    rw [List.flatMap_cons, List.length_append, List.length_cons, List.length_cons, Nat.mul_add]
    omega
theorem opsT_next {l : List OpD} {i : Nat} (h : i < l.length) : opsT (l.take (i + 1)) = opsT (l.take i) ++ 32 :: textO (nth l i) := by
  unfold opsT
  rw [List.take_succ_eq_append_getElem h, List.flatMap_append, nth_eq h]
  simp

theorem textO_small (o : OpD) : (textO o).length ≤ 100 := by
  by_cases hk : rightO o = true
  · exact textO_len hk
  · unfold textO; rw [if_pos (by simpa using hk)]; simp

theorem txText_c (t : TxD) (ht : t.ops.length ≤ 1000000) : FnP Try.prog 49 [.agg (rTx t)] (.bs (textT t)) := by
  refine FnP.mk Try.func49 rfl Try.ntmps49 rfl ?_
  intro B a w F hB hfr hS
  have hid := range_i64 (Sat.aggInt hS (i := 0) (k := 0) rfl rfl)
  have htl := textL_len hid
  have hhl : (headT t).length ≤ 23 := by unfold headT; rw [List.length_append]; split <;> simp only [List.length_cons, List.length_nil] <;> omega
  refine wp_seq ?_
  refine region_seq hS (by kernel_rfl)
    (cF rfl (o_boxA 101 (.conv .t .agg) (by kernel_rfl)) r1 trivial
    (cF rfl (o_assign (.cs (by kernel_rfl)) (by rfl)) trivial trivial
    Chain.nil))
    (by kernel_rfl) (by rw [hB]; kernel_rfl) ?_
  clear hS; intro a w F hS
  replace hS := hS.sub
  obtain ⟨F, hS⟩ := hS.norm [(1, _), (2, _)] [(0, _), (101, _)] r2 r2
  try dsimp only [RS.sub, SF.sub, CF.sub, csub, Anc.sub, List.map, zCF] at hS
  generalize Act.tau a 1 = v1 at hS
  refine then_n ?_
  refine wp_seq ?_
  refine region_seq hS (by kernel_rfl)
    (cF rfl (o_alloc (zs := [.pointer none, .slice none 0 0]) 102 (by kernel_rfl)) trivial trivial
    Chain.nil)
    (by kernel_rfl) (by rw [hB]; kernel_rfl) ?_
  clear hS; intro a w F hS
  replace hS := hS.sub
  obtain ⟨F, hS⟩ := hS.norm [(1, _), (2, _), (3, _)] [(0, _), (101, _), (102, _)] r3 r3
  try dsimp only [RS.sub, SF.sub, CF.sub, csub, Anc.sub, List.map, zCF] at hS
  generalize Act.tau a 3 = v3 at hS
  obtain ⟨b, rfl⟩ := hS.shape 102 rfl
  replace hS := hS.fresh 9 rfl
  replace hS := hS.turn 9 rfl (nilRow (T := 5) (sz := 1) (R := rC))
  replace hS := hS.fresh 10 rfl
  obtain ⟨F, hS⟩ := hS.push 10 9 rfl rfl rfl (by kernel_rfl)
  obtain ⟨F, hS⟩ := hS.push 10 102 rfl rfl rfl (by kernel_rfl)
  replace hS := hS.turn 10 rfl (r' := RS.hp (builderH (.pointer (some ⟨b, 0, none⟩)) [])) (fun _ _ _ _ h => ⟨_, .inl rfl, _, fun _ => rfl, h⟩)
  obtain ⟨F, hS⟩ := hS.norm [(1, _), (2, _), (3, _)] [(0, _), (10, _), (101, _)] r3 r3
  refine then_n ?_
  refine wp_seq ?_
  refine region_seq hS (by kernel_rfl)
    (cF rfl (o_fieldAddr (off := 0) 101 .is (by kernel_rfl) (by rfl)) r1 r1
    (cF rfl (o_load (ag := false) (sz := 1) 101 .adr (by kernel_rfl) (by kernel_rfl) (by kernel_rfl) (by rfl)) r1 r1
    (cF rfl (o_callP (text_c t.id) Try.func99 rfl (by kernel_rfl) (Args.one .t)) r1 trivial
    (cF rfl (o_callG1 10 (writeString_c b [] (by simp) (textL t.id) (textL_ne _) (by omega)) Try.func98 rfl (by kernel_rfl) (Args.two .t .t)) r2 r1
    Chain.nil))))
    (by kernel_rfl) (by rw [hB]; kernel_rfl) ?_
  clear hS; intro a w F hS
  obtain ⟨F, hS⟩ := hS.norm [(1, _), (2, _), (3, _)] [(0, _), (10, _), (101, _)] r3 r3
  try dsimp only [List.map, List.drop_succ_cons, List.drop_zero, List.drop_nil, List.take_succ_cons, List.take_zero, List.take_nil, ldSF] at hS
  replace hS := hS.turn 10 rfl (r' := RS.hp (builderH (.pointer (some ⟨b, 0, none⟩)) (textL t.id))) (fun _ _ _ _ h => ⟨_, .inr rfl, h⟩)
  refine then_n ?_
  refine wp_seq ?_
  refine wp_seq ?_
  refine region_seq hS (by kernel_rfl)
    (cF rfl (o_fieldAddr (off := 1) 101 .is (by kernel_rfl) (by rfl)) r1 r1
    (cF rfl (o_load (ag := false) (sz := 1) 101 .adr (by kernel_rfl) (by kernel_rfl) (by kernel_rfl) (by rfl)) r1 r1
    Chain.nil))
    (by kernel_rfl) (by rw [hB]; kernel_rfl) ?_
  clear hS; intro a w F hS
  obtain ⟨F, hS⟩ := hS.norm [(1, _), (2, _), (3, _), (11, _)] [(0, _), (10, _), (101, _)] r4 r3
  try dsimp only [List.map, List.drop_succ_cons, List.drop_zero, List.drop_nil, List.take_succ_cons, List.take_zero, List.take_nil, ldSF] at hS
  refine then_n ?_
  refine cond_b hS rfl (fun hc0 => ?_) (fun hc0 => ?_)
  ·skip
   have hdn : t.done = true := hc0
   refine region_seq hS (by kernel_rfl)
     (cF rfl (o_callG1 10 (writeString_c b (textL t.id) (by omega) [32, 99] (by simp) (by simp)) Try.func98 rfl (by kernel_rfl) (Args.two .t (.cs (by kernel_rfl)))) r1 r1
     Chain.nil)
     (by kernel_rfl) (by rw [hB]; kernel_rfl) ?_
   clear hS; intro a w F hS
   obtain ⟨F, hS⟩ := hS.norm [(1, _), (2, _), (3, _)] [(0, _), (10, _), (101, _)] r3 r3
   replace hS := hS.turn 10 rfl (r' := RS.hp (builderH (.pointer (some ⟨b, 0, none⟩)) (headT t ++ opsT (t.ops.take 0)))) (fun _ _ _ _ h => ⟨_, .inr rfl, by rw [show (headT t ++ opsT (t.ops.take 0)) = textL t.id ++ [32, 99] by unfold headT opsT; rw [hdn]; simp]; exact h⟩)
   refine then_n ?_
   refine wp_seq ?_
   refine wp_seq ?_
   refine region_seq hS (by kernel_rfl)
     (cF rfl (o_fieldAddr (off := 2) 101 .is (by kernel_rfl) (by rfl)) r1 r1
     (cF rfl (o_load (ag := false) (sz := 1) 101 .adr (by kernel_rfl) (by kernel_rfl) (by kernel_rfl) (by rfl)) r1 r1
     (cF rfl (o_len_sl Try.underlying46 .t) r1 trivial
     (cF rfl (o_move (.ci (by kernel_rfl)) (by rfl)) trivial trivial
     Chain.nil))))
     (by kernel_rfl) (by rw [hB]; kernel_rfl) ?_
   clear hS; intro a w F hS
   obtain ⟨F, hS⟩ := hS.norm [(2, _), (3, _), (15, _), (16, _), (17, _)] [(0, _), (10, _), (101, _)] r5 r3
   try dsimp only [List.map, List.drop_succ_cons, List.drop_zero, List.drop_nil, List.take_succ_cons, List.take_zero, List.take_nil, ldSF] at hS
   refine then_n ?_
   refine wp_block ?_
   obtain ⟨F, hS⟩ := hS.norm [(3, _), (15, _), (16, _), (17, _)] [(0, _), (10, _)] r4 r2
   refine loop_inv (σ := Nat) (fun s => (⟨[(3, .pv (.is (.pointer (some ⟨b, 0, none⟩)))), (15, .pv (.sl rOp t.ops)), (16, .pv (.int .i64 (t.ops.length : Nat))), (17, .pv (.int .i64 (s : Nat)))], [(0, frame B), (10, RS.hp (builderH (.pointer (some ⟨b, 0, none⟩)) (headT t ++ opsT (t.ops.take s))))]⟩ : En)) (fun s => s ≤ t.ops.length) (fun s => t.ops.length - s) 0 hS (Nat.zero_le _) ?_
   clear hS; intro i a w F hC hS
   try dsimp only at hC
   try dsimp only at hS
   have hi0 := hC
   have hct : (opsT (t.ops.take i)).length ≤ 101 * i := Nat.le_trans (opsT_len _) (by rw [List.length_take]; omega)
   refine wp_seq ?_
   refine region_seq hS (by kernel_rfl)
     (cF rfl (o_lss .t .t) r2 trivial
     Chain.nil)
     (by kernel_rfl) (by rw [hB]; kernel_rfl) ?_
   clear hS; intro a w F hS
   obtain ⟨F, hS⟩ := hS.norm [(3, _), (15, _), (16, _), (17, _), (18, _)] [(0, _), (10, _)] r5 r2
   refine then_n ?_
   refine wp_seq ?_
   refine cond_b hS rfl (fun hc1 => ?_) (fun hc1 => ?_)
   ·skip
    have hi : i < t.ops.length := by have h9 := of_decide_eq_true hc1; omega
    have hto : (textO (nth t.ops i)).length ≤ 100 := textO_small _
    refine wp_skip ?_
    refine then_n ?_
    refine wp_seq ?_
    refine wp_block ?_
    refine wp_seq ?_
    refine region_seq hS (by kernel_rfl)
      (cF rfl (o_indexAddr_sl (sz := 4) (.mk Try.underlying46 (by kernel_rfl)) (by intro x; rfl) .t .t (by omega) (by omega)) r2 trivial
      (cF rfl (o_load_ref (ag := true) (sz := 4) .t (by kernel_rfl) (by kernel_rfl) (by kernel_rfl)) r1 trivial
      (cF rfl (o_alloc (zs := [.bool false, .int .i64 0, .int .i64 0, .int .i64 0]) 103 (by kernel_rfl)) trivial trivial
      (cF rfl (o_storeA (sz := 4) 103 .same .t (by kernel_rfl) (by kernel_rfl) (by kernel_rfl)) r2 r1
      Chain.nil))))
      (by kernel_rfl) (by rw [hB]; kernel_rfl) ?_
    clear hS; intro a w F hS
    replace hS := hS.sub
    obtain ⟨F, hS⟩ := hS.norm [(3, _), (5, _), (15, _), (16, _), (17, _), (18, _), (19, _), (20, _)] [(0, _), (10, _), (103, _)] r8 r3
    try dsimp only [RS.sub, SF.sub, CF.sub, csub, Anc.sub, List.map, stCells, List.length_cons, List.length_nil, Nat.reduceAdd, List.drop_succ_cons, List.drop_zero, List.drop_nil, List.take_succ_cons, List.take_zero, List.take_nil, List.cons_append, List.nil_append, zCF, ldSF] at hS
    generalize Act.tau a 5 = v5 at hS
    rw [Int.toNat_natCast] at hS
    refine then_n ?_
    refine region_seq hS (by kernel_rfl)
      (cF rfl (o_load (ag := true) (sz := 4) 103 .is (by kernel_rfl) (by kernel_rfl) (by kernel_rfl) (by rfl)) r1 r1
      (cF rfl (o_callP (opText_c (nth t.ops i)) Try.func100 rfl (by kernel_rfl) (Args.one (.pagg .t))) r1 trivial
      (cF rfl (o_add_bs (.cs (by kernel_rfl)) .t (by simp only [List.length_cons, List.length_nil]; omega)) r1 trivial
      (cF rfl (o_callG1 10 (writeString_c b (headT t ++ opsT (t.ops.take i)) (by rw [List.length_append]; omega) ([32] ++ (textO (nth t.ops i))) (by simp) (by simp only [List.length_append, List.length_cons, List.length_nil]; omega)) Try.func98 rfl (by kernel_rfl) (Args.two .t .t)) r2 r1
      Chain.nil))))
      (by kernel_rfl) (by rw [hB]; kernel_rfl) ?_
    clear hS; intro a w F hS
    obtain ⟨F, hS⟩ := hS.norm [(3, _), (5, _), (15, _), (16, _), (17, _), (18, _), (19, _), (20, _), (21, _), (22, _), (23, _)] [(0, _), (10, _), (103, _)] ⟨rfl, rfl, rfl, rfl, rfl, rfl, rfl, rfl, rfl, rfl, rfl, trivial⟩ r3
    try dsimp only [List.map, List.drop_succ_cons, List.drop_zero, List.drop_nil, List.take_succ_cons, List.take_zero, List.take_nil, ldSF] at hS
    refine block_n ?_
    refine then_n ?_
    refine region_seq hS (by kernel_rfl)
      (cF rfl (o_add .t (.ci (by kernel_rfl))) r1 trivial
      (cF rfl (o_move .t (by rfl)) r1 trivial
      Chain.nil))
      (by kernel_rfl) (by rw [hB]; kernel_rfl) ?_
    clear hS; intro a w F hS
    obtain ⟨F, hS⟩ := hS.norm [(3, _), (5, _), (15, _), (16, _), (17, _), (18, _), (19, _), (20, _), (21, _), (22, _), (23, _), (25, _)] [(0, _), (10, _), (103, _)] ⟨rfl, rfl, rfl, rfl, rfl, rfl, rfl, rfl, rfl, rfl, rfl, rfl, trivial⟩ r3
    refine then_n ?_
    replace hS := hS.turn 10 rfl (r' := RS.hp (builderH (.pointer (some ⟨b, 0, none⟩)) (headT t ++ opsT (t.ops.take (i + 1))))) (fun _ _ _ _ h => ⟨_, .inr rfl, by rw [opsT_next hi, ← List.append_assoc]; exact h⟩)
    replace hS := hS.ent (i := 17) (s' := .pv (.int .i64 ((i + 1 : Nat) : Int))) rfl (.int (wrap_succ (by omega)))
    obtain ⟨F, hS⟩ := hS.norm [(3, _), (15, _), (16, _), (17, _)] [(0, _), (10, _)] r4 r2
    exact ⟨i + 1, F, (by omega), hS, by omega⟩
   ·skip
    have hil : i = t.ops.length := by have h9 := of_decide_eq_false hc1; omega
    rw [hil, List.take_length] at hS
    refine wp_exit ?_
    refine then_x ?_
    refine then_x ?_
    refine block_x ?_
    refine then_n ?_
    refine wp_seq ?_
    refine region_seq hS (by kernel_rfl)
      (cF rfl (o_callG1 10 (string_c b (headT t ++ opsT t.ops)) Try.func101 rfl (by kernel_rfl) (Args.one .t)) r1 r1
      (cF rfl (o_assign .t (by rfl)) r1 trivial
      Chain.nil))
      (by kernel_rfl) (by rw [hB]; kernel_rfl) ?_
    clear hS; intro a w F hS
    obtain ⟨F, hS⟩ := hS.norm [(2, _)] [(0, _), (10, _)] r1 r2
    refine then_n ?_
    refine wp_ret ?_
    refine ret_P hfr hS rfl (.tmp rfl .nil) (.one (.bs (by unfold textT; rfl)))
  ·skip
   have hdn : t.done = false := hc0
   refine region_seq hS (by kernel_rfl)
     (cF rfl (o_callG1 10 (writeString_c b (textL t.id) (by omega) [32, 97] (by simp) (by simp)) Try.func98 rfl (by kernel_rfl) (Args.two .t (.cs (by kernel_rfl)))) r1 r1
     Chain.nil)
     (by kernel_rfl) (by rw [hB]; kernel_rfl) ?_
   clear hS; intro a w F hS
   obtain ⟨F, hS⟩ := hS.norm [(1, _), (2, _), (3, _)] [(0, _), (10, _), (101, _)] r3 r3
   replace hS := hS.turn 10 rfl (r' := RS.hp (builderH (.pointer (some ⟨b, 0, none⟩)) (headT t ++ opsT (t.ops.take 0)))) (fun _ _ _ _ h => ⟨_, .inr rfl, by rw [show (headT t ++ opsT (t.ops.take 0)) = textL t.id ++ [32, 97] by unfold headT opsT; rw [hdn]; simp]; exact h⟩)
   refine then_n ?_
   refine wp_seq ?_
   refine wp_seq ?_
   refine region_seq hS (by kernel_rfl)
     (cF rfl (o_fieldAddr (off := 2) 101 .is (by kernel_rfl) (by rfl)) r1 r1
     (cF rfl (o_load (ag := false) (sz := 1) 101 .adr (by kernel_rfl) (by kernel_rfl) (by kernel_rfl) (by rfl)) r1 r1
     (cF rfl (o_len_sl Try.underlying46 .t) r1 trivial
     (cF rfl (o_move (.ci (by kernel_rfl)) (by rfl)) trivial trivial
     Chain.nil))))
     (by kernel_rfl) (by rw [hB]; kernel_rfl) ?_
   clear hS; intro a w F hS
   obtain ⟨F, hS⟩ := hS.norm [(2, _), (3, _), (15, _), (16, _), (17, _)] [(0, _), (10, _), (101, _)] r5 r3
   try dsimp only [List.map, List.drop_succ_cons, List.drop_zero, List.drop_nil, List.take_succ_cons, List.take_zero, List.take_nil, ldSF] at hS
   refine then_n ?_
   refine wp_block ?_
   obtain ⟨F, hS⟩ := hS.norm [(3, _), (15, _), (16, _), (17, _)] [(0, _), (10, _)] r4 r2
   refine loop_inv (σ := Nat) (fun s => (⟨[(3, .pv (.is (.pointer (some ⟨b, 0, none⟩)))), (15, .pv (.sl rOp t.ops)), (16, .pv (.int .i64 (t.ops.length : Nat))), (17, .pv (.int .i64 (s : Nat)))], [(0, frame B), (10, RS.hp (builderH (.pointer (some ⟨b, 0, none⟩)) (headT t ++ opsT (t.ops.take s))))]⟩ : En)) (fun s => s ≤ t.ops.length) (fun s => t.ops.length - s) 0 hS (Nat.zero_le _) ?_
   clear hS; intro i a w F hC hS
   try dsimp only at hC
   try dsimp only at hS
   have hi0 := hC
   have hct : (opsT (t.ops.take i)).length ≤ 101 * i := Nat.le_trans (opsT_len _) (by rw [List.length_take]; omega)
   refine wp_seq ?_
   refine region_seq hS (by kernel_rfl)
     (cF rfl (o_lss .t .t) r2 trivial
     Chain.nil)
     (by kernel_rfl) (by rw [hB]; kernel_rfl) ?_
   clear hS; intro a w F hS
   obtain ⟨F, hS⟩ := hS.norm [(3, _), (15, _), (16, _), (17, _), (18, _)] [(0, _), (10, _)] r5 r2
   refine then_n ?_
   refine wp_seq ?_
   refine cond_b hS rfl (fun hc2 => ?_) (fun hc2 => ?_)
   ·skip
    have hi : i < t.ops.length := by have h9 := of_decide_eq_true hc2; omega
    have hto : (textO (nth t.ops i)).length ≤ 100 := textO_small _
    refine wp_skip ?_
    refine then_n ?_
    refine wp_seq ?_
    refine wp_block ?_
    refine wp_seq ?_
    refine region_seq hS (by kernel_rfl)
      (cF rfl (o_indexAddr_sl (sz := 4) (.mk Try.underlying46 (by kernel_rfl)) (by intro x; rfl) .t .t (by omega) (by omega)) r2 trivial
      (cF rfl (o_load_ref (ag := true) (sz := 4) .t (by kernel_rfl) (by kernel_rfl) (by kernel_rfl)) r1 trivial
      (cF rfl (o_alloc (zs := [.bool false, .int .i64 0, .int .i64 0, .int .i64 0]) 104 (by kernel_rfl)) trivial trivial
      (cF rfl (o_storeA (sz := 4) 104 .same .t (by kernel_rfl) (by kernel_rfl) (by kernel_rfl)) r2 r1
      Chain.nil))))
      (by kernel_rfl) (by rw [hB]; kernel_rfl) ?_
    clear hS; intro a w F hS
    replace hS := hS.sub
    obtain ⟨F, hS⟩ := hS.norm [(3, _), (5, _), (15, _), (16, _), (17, _), (18, _), (19, _), (20, _)] [(0, _), (10, _), (104, _)] r8 r3
    try dsimp only [RS.sub, SF.sub, CF.sub, csub, Anc.sub, List.map, stCells, List.length_cons, List.length_nil, Nat.reduceAdd, List.drop_succ_cons, List.drop_zero, List.drop_nil, List.take_succ_cons, List.take_zero, List.take_nil, List.cons_append, List.nil_append, zCF, ldSF] at hS
    generalize Act.tau a 5 = v5 at hS
    rw [Int.toNat_natCast] at hS
    refine then_n ?_
    refine region_seq hS (by kernel_rfl)
      (cF rfl (o_load (ag := true) (sz := 4) 104 .is (by kernel_rfl) (by kernel_rfl) (by kernel_rfl) (by rfl)) r1 r1
      (cF rfl (o_callP (opText_c (nth t.ops i)) Try.func100 rfl (by kernel_rfl) (Args.one (.pagg .t))) r1 trivial
      (cF rfl (o_add_bs (.cs (by kernel_rfl)) .t (by simp only [List.length_cons, List.length_nil]; omega)) r1 trivial
      (cF rfl (o_callG1 10 (writeString_c b (headT t ++ opsT (t.ops.take i)) (by rw [List.length_append]; omega) ([32] ++ (textO (nth t.ops i))) (by simp) (by simp only [List.length_append, List.length_cons, List.length_nil]; omega)) Try.func98 rfl (by kernel_rfl) (Args.two .t .t)) r2 r1
      Chain.nil))))
      (by kernel_rfl) (by rw [hB]; kernel_rfl) ?_
    clear hS; intro a w F hS
    obtain ⟨F, hS⟩ := hS.norm [(3, _), (5, _), (15, _), (16, _), (17, _), (18, _), (19, _), (20, _), (21, _), (22, _), (23, _)] [(0, _), (10, _), (104, _)] ⟨rfl, rfl, rfl, rfl, rfl, rfl, rfl, rfl, rfl, rfl, rfl, trivial⟩ r3
    try dsimp only [List.map, List.drop_succ_cons, List.drop_zero, List.drop_nil, List.take_succ_cons, List.take_zero, List.take_nil, ldSF] at hS
    refine block_n ?_
    refine then_n ?_
    refine region_seq hS (by kernel_rfl)
      (cF rfl (o_add .t (.ci (by kernel_rfl))) r1 trivial
      (cF rfl (o_move .t (by rfl)) r1 trivial
      Chain.nil))
      (by kernel_rfl) (by rw [hB]; kernel_rfl) ?_
    clear hS; intro a w F hS
    obtain ⟨F, hS⟩ := hS.norm [(3, _), (5, _), (15, _), (16, _), (17, _), (18, _), (19, _), (20, _), (21, _), (22, _), (23, _), (25, _)] [(0, _), (10, _), (104, _)] ⟨rfl, rfl, rfl, rfl, rfl, rfl, rfl, rfl, rfl, rfl, rfl, rfl, trivial⟩ r3
    refine then_n ?_
    replace hS := hS.turn 10 rfl (r' := RS.hp (builderH (.pointer (some ⟨b, 0, none⟩)) (headT t ++ opsT (t.ops.take (i + 1))))) (fun _ _ _ _ h => ⟨_, .inr rfl, by rw [opsT_next hi, ← List.append_assoc]; exact h⟩)
    replace hS := hS.ent (i := 17) (s' := .pv (.int .i64 ((i + 1 : Nat) : Int))) rfl (.int (wrap_succ (by omega)))
    obtain ⟨F, hS⟩ := hS.norm [(3, _), (15, _), (16, _), (17, _)] [(0, _), (10, _)] r4 r2
    exact ⟨i + 1, F, (by omega), hS, by omega⟩
   ·skip
    have hil : i = t.ops.length := by have h9 := of_decide_eq_false hc2; omega
    rw [hil, List.take_length] at hS
    refine wp_exit ?_
    refine then_x ?_
    refine then_x ?_
    refine block_x ?_
    refine then_n ?_
    refine wp_seq ?_
    refine region_seq hS (by kernel_rfl)
      (cF rfl (o_callG1 10 (string_c b (headT t ++ opsT t.ops)) Try.func101 rfl (by kernel_rfl) (Args.one .t)) r1 r1
      (cF rfl (o_assign .t (by rfl)) r1 trivial
      Chain.nil))
      (by kernel_rfl) (by rw [hB]; kernel_rfl) ?_
    clear hS; intro a w F hS
    obtain ⟨F, hS⟩ := hS.norm [(2, _)] [(0, _), (10, _)] r1 r2
    refine then_n ?_
    refine wp_ret ?_
    refine ret_P hfr hS rfl (.tmp rfl .nil) (.one (.bs (by unfold textT; rfl)))

theorem refTxText_c (t : TxD) (ht : t.ops.length ≤ 1000000) : FnP Try.prog 50 [.agg (rTx t)] (.bs (textT t)) := by
  refine FnP.mk Try.func50 rfl Try.ntmps50 rfl ?_
  intro B a w F hB hfr hS
  have hid := range_i64 (Sat.aggInt hS (i := 0) (k := 0) rfl rfl)
  have htl := textL_len hid
  have hhl : (headT t).length ≤ 23 := by unfold headT; rw [List.length_append]; split <;> simp only [List.length_cons, List.length_nil] <;> omega
  refine wp_seq ?_
  refine region_seq hS (by kernel_rfl)
    (cF rfl (o_boxA 101 (.conv .t .agg) (by kernel_rfl)) r1 trivial
    (cF rfl (o_assign (.cs (by kernel_rfl)) (by rfl)) trivial trivial
    Chain.nil))
    (by kernel_rfl) (by rw [hB]; kernel_rfl) ?_
  clear hS; intro a w F hS
  replace hS := hS.sub
  obtain ⟨F, hS⟩ := hS.norm [(1, _), (2, _)] [(0, _), (101, _)] r2 r2
  try dsimp only [RS.sub, SF.sub, CF.sub, csub, Anc.sub, List.map, zCF] at hS
  generalize Act.tau a 1 = v1 at hS
  refine then_n ?_
  refine wp_seq ?_
  refine region_seq hS (by kernel_rfl)
    (cF rfl (o_fieldAddr (off := 0) 101 .is (by kernel_rfl) (by rfl)) r1 r1
    (cF rfl (o_load (ag := false) (sz := 1) 101 .adr (by kernel_rfl) (by kernel_rfl) (by kernel_rfl) (by rfl)) r1 r1
    (cF rfl (o_callP (refText_c t.id) Try.func102 rfl (by kernel_rfl) (Args.one .t)) r1 trivial
    (cF rfl (o_add_bs .t (.cs (by kernel_rfl)) (by simp only [List.length_cons, List.length_nil]; omega)) r1 trivial
    (cF rfl (o_assign .t (by rfl)) r1 trivial
    Chain.nil)))))
    (by kernel_rfl) (by rw [hB]; kernel_rfl) ?_
  clear hS; intro a w F hS
  obtain ⟨F, hS⟩ := hS.norm [(1, _), (2, _), (3, _)] [(0, _), (101, _)] r3 r2
  try dsimp only [List.map, List.drop_succ_cons, List.drop_zero, List.drop_nil, List.take_succ_cons, List.take_zero, List.take_nil, ldSF] at hS
  refine then_n ?_
  refine wp_seq ?_
  refine wp_seq ?_
  refine region_seq hS (by kernel_rfl)
    (cF rfl (o_fieldAddr (off := 1) 101 .is (by kernel_rfl) (by rfl)) r1 r1
    (cF rfl (o_load (ag := false) (sz := 1) 101 .adr (by kernel_rfl) (by kernel_rfl) (by kernel_rfl) (by rfl)) r1 r1
    Chain.nil))
    (by kernel_rfl) (by rw [hB]; kernel_rfl) ?_
  clear hS; intro a w F hS
  obtain ⟨F, hS⟩ := hS.norm [(1, _), (2, _), (3, _), (11, _)] [(0, _), (101, _)] r4 r2
  try dsimp only [List.map, List.drop_succ_cons, List.drop_zero, List.drop_nil, List.take_succ_cons, List.take_zero, List.take_nil, ldSF] at hS
  refine then_n ?_
  refine cond_b hS rfl (fun hc0 => ?_) (fun hc0 => ?_)
  ·skip
   have hdn : t.done = true := hc0
   refine region_seq hS (by kernel_rfl)
     (cF rfl (o_fieldAddr (off := 0) 101 .is (by kernel_rfl) (by rfl)) r1 r1
     (cF rfl (o_load (ag := false) (sz := 1) 101 .adr (by kernel_rfl) (by kernel_rfl) (by kernel_rfl) (by rfl)) r1 r1
     (cF rfl (o_callP (refText_c t.id) Try.func102 rfl (by kernel_rfl) (Args.one .t)) r1 trivial
     (cF rfl (o_add_bs .t (.cs (by kernel_rfl)) (by simp only [List.length_cons, List.length_nil]; omega)) r1 trivial
     (cF rfl (o_assign .t (by rfl)) r1 trivial
     Chain.nil)))))
     (by kernel_rfl) (by rw [hB]; kernel_rfl) ?_
   clear hS; intro a w F hS
   obtain ⟨F, hS⟩ := hS.norm [(1, _), (2, _), (3, _)] [(0, _), (101, _)] r3 r2
   try dsimp only [List.map, List.drop_succ_cons, List.drop_zero, List.drop_nil, List.take_succ_cons, List.take_zero, List.take_nil, ldSF] at hS
   refine then_n ?_
   refine wp_seq ?_
   refine wp_seq ?_
   refine region_seq hS (by kernel_rfl)
     (cF rfl (o_fieldAddr (off := 2) 101 .is (by kernel_rfl) (by rfl)) r1 r1
     (cF rfl (o_load (ag := false) (sz := 1) 101 .adr (by kernel_rfl) (by kernel_rfl) (by kernel_rfl) (by rfl)) r1 r1
     (cF rfl (o_len_sl Try.underlying46 .t) r1 trivial
     (cF rfl (o_move (.ci (by kernel_rfl)) (by rfl)) trivial trivial
     Chain.nil))))
     (by kernel_rfl) (by rw [hB]; kernel_rfl) ?_
   clear hS; intro a w F hS
   obtain ⟨F, hS⟩ := hS.norm [(2, _), (3, _), (17, _), (18, _), (19, _)] [(0, _), (101, _)] r5 r2
   try dsimp only [List.map, List.drop_succ_cons, List.drop_zero, List.drop_nil, List.take_succ_cons, List.take_zero, List.take_nil, ldSF] at hS
   refine then_n ?_
   refine wp_block ?_
   replace hS := hS.ent (i := 3) (s' := .pv (.bs (headT t ++ opsT (t.ops.take 0)))) rfl (.bs (by unfold headT opsT; rw [hdn]; simp))
   obtain ⟨F, hS⟩ := hS.norm [(3, _), (17, _), (18, _), (19, _)] [(0, _)] r4 r1
   refine loop_inv (σ := Nat) (fun s => (⟨[(3, .pv (.bs (headT t ++ opsT (t.ops.take s)))), (17, .pv (.sl rOp t.ops)), (18, .pv (.int .i64 (t.ops.length : Nat))), (19, .pv (.int .i64 (s : Nat)))], [(0, frame B)]⟩ : En)) (fun s => s ≤ t.ops.length) (fun s => t.ops.length - s) 0 hS (Nat.zero_le _) ?_
   clear hS; intro i a w F hC hS
   try dsimp only at hC
   try dsimp only at hS
   have hi0 := hC
   have hct : (opsT (t.ops.take i)).length ≤ 101 * i := Nat.le_trans (opsT_len _) (by rw [List.length_take]; omega)
   refine wp_seq ?_
   refine region_seq hS (by kernel_rfl)
     (cF rfl (o_lss .t .t) r2 trivial
     Chain.nil)
     (by kernel_rfl) (by rw [hB]; kernel_rfl) ?_
   clear hS; intro a w F hS
   obtain ⟨F, hS⟩ := hS.norm [(3, _), (17, _), (18, _), (19, _), (20, _)] [(0, _)] r5 r1
   refine then_n ?_
   refine wp_seq ?_
   refine cond_b hS rfl (fun hc1 => ?_) (fun hc1 => ?_)
   ·skip
    have hi : i < t.ops.length := by have h9 := of_decide_eq_true hc1; omega
    have hto : (textO (nth t.ops i)).length ≤ 100 := textO_small _
    refine wp_skip ?_
    refine then_n ?_
    refine wp_seq ?_
    refine wp_block ?_
    refine wp_seq ?_
    refine region_seq hS (by kernel_rfl)
      (cF rfl (o_indexAddr_sl (sz := 4) (.mk Try.underlying46 (by kernel_rfl)) (by intro x; rfl) .t .t (by omega) (by omega)) r2 trivial
      (cF rfl (o_load_ref (ag := true) (sz := 4) .t (by kernel_rfl) (by kernel_rfl) (by kernel_rfl)) r1 trivial
      (cF rfl (o_alloc (zs := [.bool false, .int .i64 0, .int .i64 0, .int .i64 0]) 102 (by kernel_rfl)) trivial trivial
      (cF rfl (o_storeA (sz := 4) 102 .same .t (by kernel_rfl) (by kernel_rfl) (by kernel_rfl)) r2 r1
      Chain.nil))))
      (by kernel_rfl) (by rw [hB]; kernel_rfl) ?_
    clear hS; intro a w F hS
    replace hS := hS.sub
    obtain ⟨F, hS⟩ := hS.norm [(3, _), (5, _), (17, _), (18, _), (19, _), (20, _), (21, _), (22, _)] [(0, _), (102, _)] r8 r2
    try dsimp only [RS.sub, SF.sub, CF.sub, csub, Anc.sub, List.map, stCells, List.length_cons, List.length_nil, Nat.reduceAdd, List.drop_succ_cons, List.drop_zero, List.drop_nil, List.take_succ_cons, List.take_zero, List.take_nil, List.cons_append, List.nil_append, zCF, ldSF] at hS
    generalize Act.tau a 5 = v5 at hS
    rw [Int.toNat_natCast] at hS
    refine then_n ?_
    refine region_seq hS (by kernel_rfl)
      (cF rfl (o_move .t (by rfl)) r1 trivial
      (cF rfl (o_load (ag := true) (sz := 4) 102 .is (by kernel_rfl) (by kernel_rfl) (by kernel_rfl) (by rfl)) r1 r1
      (cF rfl (o_callP (refOpText_c (nth t.ops i)) Try.func103 rfl (by kernel_rfl) (Args.one (.pagg .t))) r1 trivial
      (cF rfl (o_add_bs (.cs (by kernel_rfl)) .t (by simp only [List.length_cons, List.length_nil]; omega)) r1 trivial
      (cF rfl (o_add_bs .t .t (by rw [List.length_append]; simp only [List.length_append, List.length_cons, List.length_nil]; omega)) r2 trivial
      (cF rfl (o_assign .t (by rfl)) r1 trivial
      Chain.nil))))))
      (by kernel_rfl) (by rw [hB]; kernel_rfl) ?_
    clear hS; intro a w F hS
    obtain ⟨F, hS⟩ := hS.norm [(3, _), (5, _), (17, _), (18, _), (19, _), (20, _), (21, _), (22, _), (23, _), (24, _), (25, _), (26, _), (27, _)] [(0, _), (102, _)] ⟨rfl, rfl, rfl, rfl, rfl, rfl, rfl, rfl, rfl, rfl, rfl, rfl, rfl, trivial⟩ r2
    try dsimp only [List.map, List.drop_succ_cons, List.drop_zero, List.drop_nil, List.take_succ_cons, List.take_zero, List.take_nil, ldSF] at hS
    refine block_n ?_
    refine then_n ?_
    refine region_seq hS (by kernel_rfl)
      (cF rfl (o_add .t (.ci (by kernel_rfl))) r1 trivial
      (cF rfl (o_move .t (by rfl)) r1 trivial
      Chain.nil))
      (by kernel_rfl) (by rw [hB]; kernel_rfl) ?_
    clear hS; intro a w F hS
    obtain ⟨F, hS⟩ := hS.norm [(3, _), (5, _), (17, _), (18, _), (19, _), (20, _), (21, _), (22, _), (23, _), (24, _), (25, _), (26, _), (27, _), (28, _)] [(0, _), (102, _)] ⟨rfl, rfl, rfl, rfl, rfl, rfl, rfl, rfl, rfl, rfl, rfl, rfl, rfl, rfl, trivial⟩ r2
    refine then_n ?_
    replace hS := hS.ent (i := 19) (s' := .pv (.int .i64 ((i + 1 : Nat) : Int))) rfl (.int (wrap_succ (by omega)))
    replace hS := hS.ent (i := 3) (s' := .pv (.bs (headT t ++ opsT (t.ops.take (i + 1))))) rfl (.bs (by rw [opsT_next hi]; simp))
    obtain ⟨F, hS⟩ := hS.norm [(3, _), (17, _), (18, _), (19, _)] [(0, _)] r4 r1
    exact ⟨i + 1, F, (by omega), hS, by omega⟩
   ·skip
    have hil : i = t.ops.length := by have h9 := of_decide_eq_false hc1; omega
    rw [hil, List.take_length] at hS
    refine wp_exit ?_
    refine then_x ?_
    refine then_x ?_
    refine block_x ?_
    refine then_n ?_
    refine wp_seq ?_
    refine region_seq hS (by kernel_rfl)
      (cF rfl (o_move .t (by rfl)) r1 trivial
      (cF rfl (o_assign .t (by rfl)) r1 trivial
      Chain.nil))
      (by kernel_rfl) (by rw [hB]; kernel_rfl) ?_
    clear hS; intro a w F hS
    obtain ⟨F, hS⟩ := hS.norm [(2, _)] [(0, _)] r1 r1
    refine then_n ?_
    refine wp_ret ?_
    refine ret_P hfr hS rfl (.tmp rfl .nil) (.one (.bs (by unfold textT; rfl)))
  ·skip
   have hdn : t.done = false := hc0
   refine wp_skip ?_
   refine then_n ?_
   refine wp_seq ?_
   refine wp_seq ?_
   refine region_seq hS (by kernel_rfl)
     (cF rfl (o_fieldAddr (off := 2) 101 .is (by kernel_rfl) (by rfl)) r1 r1
     (cF rfl (o_load (ag := false) (sz := 1) 101 .adr (by kernel_rfl) (by kernel_rfl) (by kernel_rfl) (by rfl)) r1 r1
     (cF rfl (o_len_sl Try.underlying46 .t) r1 trivial
     (cF rfl (o_move (.ci (by kernel_rfl)) (by rfl)) trivial trivial
     Chain.nil))))
     (by kernel_rfl) (by rw [hB]; kernel_rfl) ?_
   clear hS; intro a w F hS
   obtain ⟨F, hS⟩ := hS.norm [(2, _), (3, _), (17, _), (18, _), (19, _)] [(0, _), (101, _)] r5 r2
   try dsimp only [List.map, List.drop_succ_cons, List.drop_zero, List.drop_nil, List.take_succ_cons, List.take_zero, List.take_nil, ldSF] at hS
   refine then_n ?_
   refine wp_block ?_
   replace hS := hS.ent (i := 3) (s' := .pv (.bs (headT t ++ opsT (t.ops.take 0)))) rfl (.bs (by unfold headT opsT; rw [hdn]; simp))
   obtain ⟨F, hS⟩ := hS.norm [(3, _), (17, _), (18, _), (19, _)] [(0, _)] r4 r1
   refine loop_inv (σ := Nat) (fun s => (⟨[(3, .pv (.bs (headT t ++ opsT (t.ops.take s)))), (17, .pv (.sl rOp t.ops)), (18, .pv (.int .i64 (t.ops.length : Nat))), (19, .pv (.int .i64 (s : Nat)))], [(0, frame B)]⟩ : En)) (fun s => s ≤ t.ops.length) (fun s => t.ops.length - s) 0 hS (Nat.zero_le _) ?_
   clear hS; intro i a w F hC hS
   try dsimp only at hC
   try dsimp only at hS
   have hi0 := hC
   have hct : (opsT (t.ops.take i)).length ≤ 101 * i := Nat.le_trans (opsT_len _) (by rw [List.length_take]; omega)
   refine wp_seq ?_
   refine region_seq hS (by kernel_rfl)
     (cF rfl (o_lss .t .t) r2 trivial
     Chain.nil)
     (by kernel_rfl) (by rw [hB]; kernel_rfl) ?_
   clear hS; intro a w F hS
   obtain ⟨F, hS⟩ := hS.norm [(3, _), (17, _), (18, _), (19, _), (20, _)] [(0, _)] r5 r1
   refine then_n ?_
   refine wp_seq ?_
   refine cond_b hS rfl (fun hc2 => ?_) (fun hc2 => ?_)
   ·skip
    have hi : i < t.ops.length := by have h9 := of_decide_eq_true hc2; omega
    have hto : (textO (nth t.ops i)).length ≤ 100 := textO_small _
    refine wp_skip ?_
    refine then_n ?_
    refine wp_seq ?_
    refine wp_block ?_
    refine wp_seq ?_
    refine region_seq hS (by kernel_rfl)
      (cF rfl (o_indexAddr_sl (sz := 4) (.mk Try.underlying46 (by kernel_rfl)) (by intro x; rfl) .t .t (by omega) (by omega)) r2 trivial
      (cF rfl (o_load_ref (ag := true) (sz := 4) .t (by kernel_rfl) (by kernel_rfl) (by kernel_rfl)) r1 trivial
      (cF rfl (o_alloc (zs := [.bool false, .int .i64 0, .int .i64 0, .int .i64 0]) 103 (by kernel_rfl)) trivial trivial
      (cF rfl (o_storeA (sz := 4) 103 .same .t (by kernel_rfl) (by kernel_rfl) (by kernel_rfl)) r2 r1
      Chain.nil))))
      (by kernel_rfl) (by rw [hB]; kernel_rfl) ?_
    clear hS; intro a w F hS
    replace hS := hS.sub
    obtain ⟨F, hS⟩ := hS.norm [(3, _), (5, _), (17, _), (18, _), (19, _), (20, _), (21, _), (22, _)] [(0, _), (103, _)] r8 r2
    try dsimp only [RS.sub, SF.sub, CF.sub, csub, Anc.sub, List.map, stCells, List.length_cons, List.length_nil, Nat.reduceAdd, List.drop_succ_cons, List.drop_zero, List.drop_nil, List.take_succ_cons, List.take_zero, List.take_nil, List.cons_append, List.nil_append, zCF, ldSF] at hS
    generalize Act.tau a 5 = v5 at hS
    rw [Int.toNat_natCast] at hS
    refine then_n ?_
    refine region_seq hS (by kernel_rfl)
      (cF rfl (o_move .t (by rfl)) r1 trivial
      (cF rfl (o_load (ag := true) (sz := 4) 103 .is (by kernel_rfl) (by kernel_rfl) (by kernel_rfl) (by rfl)) r1 r1
      (cF rfl (o_callP (refOpText_c (nth t.ops i)) Try.func103 rfl (by kernel_rfl) (Args.one (.pagg .t))) r1 trivial
      (cF rfl (o_add_bs (.cs (by kernel_rfl)) .t (by simp only [List.length_cons, List.length_nil]; omega)) r1 trivial
      (cF rfl (o_add_bs .t .t (by rw [List.length_append]; simp only [List.length_append, List.length_cons, List.length_nil]; omega)) r2 trivial
      (cF rfl (o_assign .t (by rfl)) r1 trivial
      Chain.nil))))))
      (by kernel_rfl) (by rw [hB]; kernel_rfl) ?_
    clear hS; intro a w F hS
    obtain ⟨F, hS⟩ := hS.norm [(3, _), (5, _), (17, _), (18, _), (19, _), (20, _), (21, _), (22, _), (23, _), (24, _), (25, _), (26, _), (27, _)] [(0, _), (103, _)] ⟨rfl, rfl, rfl, rfl, rfl, rfl, rfl, rfl, rfl, rfl, rfl, rfl, rfl, trivial⟩ r2
    try dsimp only [List.map, List.drop_succ_cons, List.drop_zero, List.drop_nil, List.take_succ_cons, List.take_zero, List.take_nil, ldSF] at hS
    refine block_n ?_
    refine then_n ?_
    refine region_seq hS (by kernel_rfl)
      (cF rfl (o_add .t (.ci (by kernel_rfl))) r1 trivial
      (cF rfl (o_move .t (by rfl)) r1 trivial
      Chain.nil))
      (by kernel_rfl) (by rw [hB]; kernel_rfl) ?_
    clear hS; intro a w F hS
    obtain ⟨F, hS⟩ := hS.norm [(3, _), (5, _), (17, _), (18, _), (19, _), (20, _), (21, _), (22, _), (23, _), (24, _), (25, _), (26, _), (27, _), (28, _)] [(0, _), (103, _)] ⟨rfl, rfl, rfl, rfl, rfl, rfl, rfl, rfl, rfl, rfl, rfl, rfl, rfl, rfl, trivial⟩ r2
    refine then_n ?_
    replace hS := hS.ent (i := 19) (s' := .pv (.int .i64 ((i + 1 : Nat) : Int))) rfl (.int (wrap_succ (by omega)))
    replace hS := hS.ent (i := 3) (s' := .pv (.bs (headT t ++ opsT (t.ops.take (i + 1))))) rfl (.bs (by rw [opsT_next hi]; simp))
    obtain ⟨F, hS⟩ := hS.norm [(3, _), (17, _), (18, _), (19, _)] [(0, _)] r4 r1
    exact ⟨i + 1, F, (by omega), hS, by omega⟩
   ·skip
    have hil : i = t.ops.length := by have h9 := of_decide_eq_false hc2; omega
    rw [hil, List.take_length] at hS
    refine wp_exit ?_
    refine then_x ?_
    refine then_x ?_
    refine block_x ?_
    refine then_n ?_
    refine wp_seq ?_
    refine region_seq hS (by kernel_rfl)
      (cF rfl (o_move .t (by rfl)) r1 trivial
      (cF rfl (o_assign .t (by rfl)) r1 trivial
      Chain.nil))
      (by kernel_rfl) (by rw [hB]; kernel_rfl) ?_
    clear hS; intro a w F hS
    obtain ⟨F, hS⟩ := hS.norm [(2, _)] [(0, _)] r1 r1
    refine then_n ?_
    refine wp_ret ?_
    refine ret_P hfr hS rfl (.tmp rfl .nil) (.one (.bs (by unfold textT; rfl)))

end Go.Proofs.Ytpjjmolibanakaa
