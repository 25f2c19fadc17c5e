/- Texts. No condition beyond those that each theorem says. -/
import Derived.Test.YtpjjmolibanakaaDoorTxO
namespace Go.Proofs.YtpjjmolibanakaaDoor
open Go Go.Gm
set_option linter.unusedVariables false
set_option linter.unusedSimpArgs false
set_option maxHeartbeats 4000000
set_option maxRecDepth 8000

theorem Sat.aggInt {B : Base} {E : En} {a : Act} {w : World} {F : Fp} (h : Sat B E a w F) {i : Nat} {l : List PV} {k : Nat} {x : Int} (hl : Go.Gm.look E.s i = some (SF.pv (PV.agg l))) (hk : l[k]? = some (.int .i64 x)) : inR .i64 x := by
  obtain ⟨vs, _, hv⟩ := h.s i _ hl
  obtain ⟨v, _, h2⟩ := PVs.at hv hk
  exact h2.2

def opsT (l : List OpD) : List UInt8 := l.flatMap fun o => 32 :: textO o
def headT (t : TxD) : List UInt8 := textL t.id ++ (if t.done = true then [32, 99] else [32, 97])
def textT (t : TxD) : List UInt8 := headT t ++ opsT t.ops
theorem opsT_len : ∀ l : List OpD, (opsT l).length ≤ 101 * l.length
  | [] => by simp [opsT]
  | o :: l => by
    have h1 := opsT_len l
    have h2 : (textO o).length ≤ 100 := by
      by_cases hk : rightO o = true
      · exact textO_len hk
      · unfold textO; rw [if_pos (by simpa using hk)]; simp
    unfold opsT at h1 ⊢
    rw [List.flatMap_cons, List.length_append, List.length_cons, List.length_cons, Nat.mul_add]
    omega
theorem opsT_next {l : List OpD} {i : Nat} (h : i < l.length) : opsT (l.take (i + 1)) = opsT (l.take i) ++ 32 :: textO (nth l i) := by
  unfold opsT
  rw [List.take_succ_eq_append_getElem h, List.flatMap_append, nth_eq h]
  simp

theorem textO_small (o : OpD) : (textO o).length ≤ 100 := by
  by_cases hk : rightO o = true
  · exact textO_len hk
  · unfold textO; rw [if_pos (by simpa using hk)]; simp

theorem txText_c (t : TxD) (ht : t.ops.length ≤ 1000000) : FnP Tryd.prog 6 [.agg (rTx t)] (.bs (textT t)) := by
  refine FnP.mk Tryd.func6 rfl Tryd.ntmps6 rfl ?_
  intro B a w F hB hfr hS
  have hid := range_i64 (Sat.aggInt hS (i := 0) (k := 0) rfl rfl)
  have htl := textL_len hid
  have hhl : (headT t).length ≤ 23 := by unfold headT; rw [List.length_append]; split <;> simp only [List.length_cons, List.length_nil] <;> omega
  refine wp_seq ?_
  refine region_q hS
    (cF rfl (oX 101 (.conv .t .agg)) r1 trivial
    (cF rfl (oN (.cs (by kernel_rfl))) trivial trivial
    Chain.nil))
    hB ?_
  clear hS; intro a w F hS
  replace hS := hS.sub
  obtain ⟨F, hS⟩ := hS.nm [2, 1] [101, 0] rfl rfl
  try dsimp only [RS.sub, SF.sub, CF.sub, csub, Anc.sub, List.map, zCF] at hS
  generalize Act.tau a 1 = v1 at hS
  refine then_n (wp_seq ?_)
  refine region_q hS
    (cF rfl (oH [.pointer none, .slice none 0 0] 102) trivial trivial
    Chain.nil)
    hB ?_
  clear hS; intro a w F hS
  replace hS := hS.sub
  obtain ⟨F, hS⟩ := hS.nm [3, 2, 1] [102, 101, 0] rfl rfl
  try dsimp only [RS.sub, SF.sub, CF.sub, csub, Anc.sub, List.map, zCF] at hS
  generalize Act.tau a 3 = v3 at hS
  obtain ⟨b, rfl⟩ := hS.shape 102 rfl
  replace hS := hS.fresh 9 rfl
  replace hS := hS.turn 9 rfl (nilRow (T := 5) (sz := 1) (R := rC))
  replace hS := hS.fresh 10 rfl
  obtain ⟨F, hS⟩ := hS.push 10 9 rfl rfl rfl (by kernel_rfl)
  obtain ⟨F, hS⟩ := hS.push 10 102 rfl rfl rfl (by kernel_rfl)
  replace hS := hS.turn 10 rfl (r' := RS.hp (builderH (.pointer (some ⟨b, 0, none⟩)) [])) (fun _ _ _ _ h => ⟨_, .inl rfl, _, fun _ => rfl, h⟩)
  obtain ⟨F, hS⟩ := hS.nm [3, 2, 1] [101, 10, 0] rfl rfl
  refine then_n (wp_seq ?_)
  refine region_q hS
    (cF rfl (oF 0 101 .is) r1 r1
    (cF rfl (oL false 1 101 .adr) r1 r1
    (cF rfl (oP (text_c t.id) Tryd.func19 (Args.one .t)) r1 trivial
    (cF rfl (o_callG1 10 (writeString_c b [] (by simp) (textL t.id) (textL_ne _) (by omega)) Tryd.func18 rfl (by kernel_rfl) (Args.two .t .t)) r2 r1
    Chain.nil))))
    hB ?_
  clear hS; intro a w F hS
  obtain ⟨F, hS⟩ := hS.nm [3, 2, 1] [101, 10, 0] rfl rfl
  try dsimp only [List.map, xD, xE, xT, xU, ldSF] at hS
  replace hS := hS.turn 10 rfl (r' := RS.hp (builderH (.pointer (some ⟨b, 0, none⟩)) (textL t.id))) (fun _ _ _ _ h => ⟨_, .inr rfl, h⟩)
  refine then_n (wp_seq (wp_seq ?_))
  refine region_q hS
    (cF rfl (oF 1 101 .is) r1 r1
    (cF rfl (oL false 1 101 .adr) r1 r1
    Chain.nil))
    hB ?_
  clear hS; intro a w F hS
  obtain ⟨F, hS⟩ := hS.nm [11, 3, 2, 1] [101, 10, 0] rfl rfl
  try dsimp only [List.map, xD, xE, xT, xU, ldSF] at hS
  refine then_n ?_
  refine cond_b hS rfl (fun hc0 => ?_) (fun hc0 => ?_)
  ·skip
   have hdn : t.done = true := hc0
   refine region_q hS
     (cF rfl (o_callG1 10 (writeString_c b (textL t.id) (by omega) [32, 99] (by simp) (by simp)) Tryd.func18 rfl (by kernel_rfl) (Args.two .t (.cs (by kernel_rfl)))) r1 r1
     Chain.nil)
     hB ?_
   clear hS; intro a w F hS
   obtain ⟨F, hS⟩ := hS.nm [3, 2, 1] [101, 10, 0] rfl rfl
   replace hS := hS.turn 10 rfl (r' := RS.hp (builderH (.pointer (some ⟨b, 0, none⟩)) (headT t ++ opsT (t.ops.take 0)))) (fun _ _ _ _ h => ⟨_, .inr rfl, by rw [show (headT t ++ opsT (t.ops.take 0)) = textL t.id ++ [32, 99] by unfold headT opsT; rw [hdn]; simp]; exact h⟩)
   refine then_n (wp_seq (wp_seq ?_))
   refine region_q hS
     (cF rfl (oF 2 101 .is) r1 r1
     (cF rfl (oL false 1 101 .adr) r1 r1
     (cF rfl (o_len_sl Tryd.underlying22 .t) r1 trivial
     (cF rfl (oM (.ci (by kernel_rfl))) trivial trivial
     Chain.nil))))
     hB ?_
   clear hS; intro a w F hS
   obtain ⟨F, hS⟩ := hS.nm [17, 16, 15, 3, 2] [101, 10, 0] rfl rfl
   try dsimp only [List.map, xD, xE, xT, xU, ldSF] at hS
   refine then_n (wp_block ?_)
   obtain ⟨F, hS⟩ := hS.nm [17, 16, 15, 3] [10, 0] rfl rfl
   refine loop_inv (σ := Nat) (fun s => (⟨[(3, .pv (.is (.pointer (some ⟨b, 0, none⟩)))), (15, .pv (.sl rOp t.ops)), (16, .pv (.int .i64 (t.ops.length : Nat))), (17, .pv (.int .i64 (s : Nat)))], [(0, frame B), (10, RS.hp (builderH (.pointer (some ⟨b, 0, none⟩)) (headT t ++ opsT (t.ops.take s))))]⟩ : En)) (fun s => s ≤ t.ops.length) (fun s => t.ops.length - s) 0 hS (Nat.zero_le _) ?_
   clear hS; intro i a w F hC hS
   try dsimp only at hC
   try dsimp only at hS
   have hi0 := hC
   have hct : (opsT (t.ops.take i)).length ≤ 101 * i := Nat.le_trans (opsT_len _) (by rw [List.length_take]; omega)
   refine wp_seq ?_
   refine region_q hS
     (cF rfl (o_lss .t .t) r2 trivial
     Chain.nil)
     hB ?_
   clear hS; intro a w F hS
   obtain ⟨F, hS⟩ := hS.nm [18, 17, 16, 15, 3] [10, 0] rfl rfl
   refine then_n (wp_seq ?_)
   refine cond_b hS rfl (fun hc1 => ?_) (fun hc1 => ?_)
   ·skip
    have hi : i < t.ops.length := by have h9 := of_decide_eq_true hc1; omega
    have hto : (textO (nth t.ops i)).length ≤ 100 := textO_small _
    refine wp_skip (then_n (wp_seq (wp_block (wp_seq ?_))))
    refine region_q hS
      (cF rfl (o_indexAddr_sl (sz := 4) (.mk Tryd.underlying22 (by kernel_rfl)) (by intro x; rfl) .t .t (by omega) (by omega)) r2 trivial
      (cF rfl (oR true 4 .t) r1 trivial
      (cF rfl (oH [.bool false, .int .i64 0, .int .i64 0, .int .i64 0] 103) trivial trivial
      (cF rfl (oA 4 103 .same .t) r2 r1
      Chain.nil))))
      hB ?_
    clear hS; intro a w F hS
    replace hS := hS.sub
    obtain ⟨F, hS⟩ := hS.nm [20, 19, 18, 17, 16, 15, 5, 3] [103, 10, 0] rfl rfl
    try dsimp only [RS.sub, SF.sub, CF.sub, csub, Anc.sub, List.map, stCells, xL, xM, Nat.reduceAdd, xD, xE, xT, xU, xC, xN, zCF, ldSF] at hS
    generalize Act.tau a 5 = v5 at hS
    rw [Int.toNat_natCast] at hS
    refine then_n ?_
    refine region_q hS
      (cF rfl (oL true 4 103 .is) r1 r1
      (cF rfl (oP (opText_c (nth t.ops i)) Tryd.func20 (Args.one (.pagg .t))) r1 trivial
      (cF rfl (o_add_bs (.cs (by kernel_rfl)) .t (by simp only [List.length_cons, List.length_nil]; omega)) r1 trivial
      (cF rfl (o_callG1 10 (writeString_c b (headT t ++ opsT (t.ops.take i)) (by rw [List.length_append]; omega) ([32] ++ (textO (nth t.ops i))) (by simp) (by simp only [List.length_append, List.length_cons, List.length_nil]; omega)) Tryd.func18 rfl (by kernel_rfl) (Args.two .t .t)) r2 r1
      Chain.nil))))
      hB ?_
    clear hS; intro a w F hS
    obtain ⟨F, hS⟩ := hS.nm [23, 22, 21, 20, 19, 18, 17, 16, 15, 5, 3] [103, 10, 0] rfl rfl
    try dsimp only [List.map, xD, xE, xT, xU, ldSF] at hS
    refine block_n (then_n ?_)
    refine region_q hS
      (cF rfl (o_add .t (.ci (by kernel_rfl))) r1 trivial
      (cF rfl (oM .t) r1 trivial
      Chain.nil))
      hB ?_
    clear hS; intro a w F hS
    obtain ⟨F, hS⟩ := hS.nm [25, 23, 22, 21, 20, 19, 18, 17, 16, 15, 5, 3] [103, 10, 0] rfl rfl
    refine then_n ?_
    replace hS := hS.turn 10 rfl (r' := RS.hp (builderH (.pointer (some ⟨b, 0, none⟩)) (headT t ++ opsT (t.ops.take (i + 1))))) (fun _ _ _ _ h => ⟨_, .inr rfl, by rw [opsT_next hi, ← List.append_assoc]; exact h⟩)
    replace hS := hS.ent (i := 17) (s' := .pv (.int .i64 ((i + 1 : Nat) : Int))) rfl (.int (wrap_succ (by omega)))
    obtain ⟨F, hS⟩ := hS.nm [17, 16, 15, 3] [10, 0] rfl rfl
    exact ⟨i + 1, F, (by omega), hS, by omega⟩
   have hil : i = t.ops.length := by have h9 := of_decide_eq_false hc1; omega
   rw [hil, List.take_length] at hS
   refine wp_exit (then_x (then_x (block_x (then_n (wp_seq ?_)))))
   refine region_q hS
     (cF rfl (o_callG1 10 (string_c b (headT t ++ opsT t.ops)) Tryd.func21 rfl (by kernel_rfl) (Args.one .t)) r1 r1
     (cF rfl (oN .t) r1 trivial
     Chain.nil))
     hB ?_
   clear hS; intro a w F hS
   obtain ⟨F, hS⟩ := hS.nm [2] [10, 0] rfl rfl
   refine then_n (wp_ret ?_)
   refine ret_P hfr hS rfl (.tmp rfl .nil) (.one (.bs (by unfold textT; rfl)))
  have hdn : t.done = false := hc0
  refine region_q hS
    (cF rfl (o_callG1 10 (writeString_c b (textL t.id) (by omega) [32, 97] (by simp) (by simp)) Tryd.func18 rfl (by kernel_rfl) (Args.two .t (.cs (by kernel_rfl)))) r1 r1
    Chain.nil)
    hB ?_
  clear hS; intro a w F hS
  obtain ⟨F, hS⟩ := hS.nm [3, 2, 1] [101, 10, 0] rfl rfl
  replace hS := hS.turn 10 rfl (r' := RS.hp (builderH (.pointer (some ⟨b, 0, none⟩)) (headT t ++ opsT (t.ops.take 0)))) (fun _ _ _ _ h => ⟨_, .inr rfl, by rw [show (headT t ++ opsT (t.ops.take 0)) = textL t.id ++ [32, 97] by unfold headT opsT; rw [hdn]; simp]; exact h⟩)
  refine then_n (wp_seq (wp_seq ?_))
  refine region_q hS
    (cF rfl (oF 2 101 .is) r1 r1
    (cF rfl (oL false 1 101 .adr) r1 r1
    (cF rfl (o_len_sl Tryd.underlying22 .t) r1 trivial
    (cF rfl (oM (.ci (by kernel_rfl))) trivial trivial
    Chain.nil))))
    hB ?_
  clear hS; intro a w F hS
  obtain ⟨F, hS⟩ := hS.nm [17, 16, 15, 3, 2] [101, 10, 0] rfl rfl
  try dsimp only [List.map, xD, xE, xT, xU, ldSF] at hS
  refine then_n (wp_block ?_)
  obtain ⟨F, hS⟩ := hS.nm [17, 16, 15, 3] [10, 0] rfl rfl
  refine loop_inv (σ := Nat) (fun s => (⟨[(3, .pv (.is (.pointer (some ⟨b, 0, none⟩)))), (15, .pv (.sl rOp t.ops)), (16, .pv (.int .i64 (t.ops.length : Nat))), (17, .pv (.int .i64 (s : Nat)))], [(0, frame B), (10, RS.hp (builderH (.pointer (some ⟨b, 0, none⟩)) (headT t ++ opsT (t.ops.take s))))]⟩ : En)) (fun s => s ≤ t.ops.length) (fun s => t.ops.length - s) 0 hS (Nat.zero_le _) ?_
  clear hS; intro i a w F hC hS
  try dsimp only at hC
  try dsimp only at hS
  have hi0 := hC
  have hct : (opsT (t.ops.take i)).length ≤ 101 * i := Nat.le_trans (opsT_len _) (by rw [List.length_take]; omega)
  refine wp_seq ?_
  refine region_q hS
    (cF rfl (o_lss .t .t) r2 trivial
    Chain.nil)
    hB ?_
  clear hS; intro a w F hS
  obtain ⟨F, hS⟩ := hS.nm [18, 17, 16, 15, 3] [10, 0] rfl rfl
  refine then_n (wp_seq ?_)
  refine cond_b hS rfl (fun hc2 => ?_) (fun hc2 => ?_)
  ·skip
   have hi : i < t.ops.length := by have h9 := of_decide_eq_true hc2; omega
   have hto : (textO (nth t.ops i)).length ≤ 100 := textO_small _
   refine wp_skip (then_n (wp_seq (wp_block (wp_seq ?_))))
   refine region_q hS
     (cF rfl (o_indexAddr_sl (sz := 4) (.mk Tryd.underlying22 (by kernel_rfl)) (by intro x; rfl) .t .t (by omega) (by omega)) r2 trivial
     (cF rfl (oR true 4 .t) r1 trivial
     (cF rfl (oH [.bool false, .int .i64 0, .int .i64 0, .int .i64 0] 104) trivial trivial
     (cF rfl (oA 4 104 .same .t) r2 r1
     Chain.nil))))
     hB ?_
   clear hS; intro a w F hS
   replace hS := hS.sub
   obtain ⟨F, hS⟩ := hS.nm [20, 19, 18, 17, 16, 15, 5, 3] [104, 10, 0] rfl rfl
   try dsimp only [RS.sub, SF.sub, CF.sub, csub, Anc.sub, List.map, stCells, xL, xM, Nat.reduceAdd, xD, xE, xT, xU, xC, xN, zCF, ldSF] at hS
   generalize Act.tau a 5 = v5 at hS
   rw [Int.toNat_natCast] at hS
   refine then_n ?_
   refine region_q hS
     (cF rfl (oL true 4 104 .is) r1 r1
     (cF rfl (oP (opText_c (nth t.ops i)) Tryd.func20 (Args.one (.pagg .t))) r1 trivial
     (cF rfl (o_add_bs (.cs (by kernel_rfl)) .t (by simp only [List.length_cons, List.length_nil]; omega)) r1 trivial
     (cF rfl (o_callG1 10 (writeString_c b (headT t ++ opsT (t.ops.take i)) (by rw [List.length_append]; omega) ([32] ++ (textO (nth t.ops i))) (by simp) (by simp only [List.length_append, List.length_cons, List.length_nil]; omega)) Tryd.func18 rfl (by kernel_rfl) (Args.two .t .t)) r2 r1
     Chain.nil))))
     hB ?_
   clear hS; intro a w F hS
   obtain ⟨F, hS⟩ := hS.nm [23, 22, 21, 20, 19, 18, 17, 16, 15, 5, 3] [104, 10, 0] rfl rfl
   try dsimp only [List.map, xD, xE, xT, xU, ldSF] at hS
   refine block_n (then_n ?_)
   refine region_q hS
     (cF rfl (o_add .t (.ci (by kernel_rfl))) r1 trivial
     (cF rfl (oM .t) r1 trivial
     Chain.nil))
     hB ?_
   clear hS; intro a w F hS
   obtain ⟨F, hS⟩ := hS.nm [25, 23, 22, 21, 20, 19, 18, 17, 16, 15, 5, 3] [104, 10, 0] rfl rfl
   refine then_n ?_
   replace hS := hS.turn 10 rfl (r' := RS.hp (builderH (.pointer (some ⟨b, 0, none⟩)) (headT t ++ opsT (t.ops.take (i + 1))))) (fun _ _ _ _ h => ⟨_, .inr rfl, by rw [opsT_next hi, ← List.append_assoc]; exact h⟩)
   replace hS := hS.ent (i := 17) (s' := .pv (.int .i64 ((i + 1 : Nat) : Int))) rfl (.int (wrap_succ (by omega)))
   obtain ⟨F, hS⟩ := hS.nm [17, 16, 15, 3] [10, 0] rfl rfl
   exact ⟨i + 1, F, (by omega), hS, by omega⟩
  have hil : i = t.ops.length := by have h9 := of_decide_eq_false hc2; omega
  rw [hil, List.take_length] at hS
  refine wp_exit (then_x (then_x (block_x (then_n (wp_seq ?_)))))
  refine region_q hS
    (cF rfl (o_callG1 10 (string_c b (headT t ++ opsT t.ops)) Tryd.func21 rfl (by kernel_rfl) (Args.one .t)) r1 r1
    (cF rfl (oN .t) r1 trivial
    Chain.nil))
    hB ?_
  clear hS; intro a w F hS
  obtain ⟨F, hS⟩ := hS.nm [2] [10, 0] rfl rfl
  refine then_n (wp_ret ?_)
  refine ret_P hfr hS rfl (.tmp rfl .nil) (.one (.bs (by unfold textT; rfl)))

end Go.Proofs.YtpjjmolibanakaaDoor
