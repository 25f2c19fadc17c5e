/- Ed6, Ed7, Ed8, in one text. -/
import Derived.Test.YtpjjmolibanakaaGreatEdX
import Derived.Test.YtpjjmolibanakaaGreatHi6
import Derived.Test.YtpjjmolibanakaaGreatOr6
namespace Go.Proofs.YtpjjmolibanakaaGreat
open Go Go.Gm
set_option linter.unusedVariables false
set_option linter.unusedSimpArgs false
set_option maxHeartbeats 4000000
set_option maxRecDepth 8000


def zeroH : HistD := ⟨[], []⟩
theorem right_rise {g : HistD} (h : RightH g) : Rise TxD.id g.txs ∧ Rise OrdD.key g.orders := by
  constructor
  · have hi : IncI (g.txs.map TxD.id) := inc_adj fun i hi h0 => by
      have hi' : i < g.txs.length := by simpa using hi
      rw [nth_map (by omega), nth_map hi']
      exact (h.2.1 i hi').1 h0
    rw [rise_iff]
    exact List.pairwise_map.1 hi
  · have h2 := (ord_same g).2 h.2.2
    have hi : IncI (g.orders.map OrdD.key) := inc_adj fun i hi h0 => by
      have hi' : i < g.orders.length := by simpa using hi
      rw [nth_map (by omega), nth_map hi']
      exact (h2.2 i hi').1 h0
    rw [rise_iff]
    exact List.pairwise_map.1 hi
def usedV (t : TxD) (v : VerD) : Bool := decide (v.tx = t.id) && decide ((wcnt t.ops v.key : Int) < v.nth)
def usedX (t x : TxD) : Bool := decide (x.id ≠ t.id) && (needsT x).any (usedV t)
def usedH (g : HistD) (t : TxD) : Bool := g.txs.any (usedX t)
theorem any_none {α : Type} [Inhabited α] {p : α → Bool} {l : List α} (h : ∀ q, q < l.length → p (Go.Gm.nth l q) = false) : l.any p = false := by
  rw [List.any_eq_false]
  intro x hx
  obtain ⟨k, hk, e⟩ := List.getElem_of_mem hx
  have := h k hk
  rw [nth_eq hk, e] at this
  simp [this]
theorem any_some {α : Type} [Inhabited α] {p : α → Bool} {l : List α} {i : Nat} (hi : i < l.length) (h : p (Go.Gm.nth l i) = true) : l.any p = true := by
  rw [List.any_eq_true]
  exact ⟨_, nth_mem hi, h⟩
def mayH (g : HistD) (t : TxD) (there : Int) (wanted : Bool) : Int × Int := if ¬ RightH g then (0, 5) else if rightT t ≠ 0 then (0, rightT t) else if isK TxD.id t.id g.txs ≠ wanted then (0, there) else if needsH g t = false then (0, 6) else (lowK TxD.id t.id g.txs, 0)
def insertH (g : HistD) (t : TxD) : HistD × Int := if (mayH g t 4 false).2 ≠ 0 then (zeroH, (mayH g t 4 false).2) else if g.txs.length = 4096 then (zeroH, 2) else (⟨g.txs.take (lowK TxD.id t.id g.txs) ++ [t] ++ g.txs.drop (lowK TxD.id t.id g.txs), settleO t g.orders⟩, 0)
def noneT (id : Int) : TxD := ⟨id, false, []⟩
def deleteH (g : HistD) (id : Int) : HistD × Int := if ¬ RightH g then (zeroH, 5) else if isK TxD.id id g.txs = false then (zeroH, 3) else if usedH g (noneT id) = true then (zeroH, 7) else (⟨g.txs.take (lowK TxD.id id g.txs) ++ g.txs.drop (lowK TxD.id id g.txs + 1), settleO (noneT id) g.orders⟩, 0)
def amendH (g : HistD) (t : TxD) : HistD × Int := if (mayH g t 3 true).2 ≠ 0 then (zeroH, (mayH g t 3 true).2) else if usedH g t = true then (zeroH, 7) else (⟨g.txs.set (lowK TxD.id t.id g.txs) t, settleO t g.orders⟩, 0)
theorem may_ok {g : HistD} {t : TxD} {there : Int} {wanted : Bool} (ht : there ≠ 0) (h : (mayH g t there wanted).2 = 0) : RightH g ∧ rightT t = 0 ∧ isK TxD.id t.id g.txs = wanted ∧ needsH g t = true ∧ (mayH g t there wanted).1 = lowK TxD.id t.id g.txs := by
  unfold mayH at h ⊢
  split at h
  · simp at h
  · rename_i h1
    split at h
    · rename_i h2; exact absurd h h2
    · rename_i h2
      split at h
      · exact absurd h ht
      · rename_i h3
        split at h
        · simp at h
        · rename_i h4
          rw [if_neg h1, if_neg h2, if_neg h3, if_neg h4]
          exact ⟨Decidable.not_not.1 h1, Decidable.not_not.1 h2, Decidable.not_not.1 h3, by simpa using h4, rfl⟩
theorem isK_low {α : Type} [Inhabited α] {κ : α → Int} {k : Int} {l : List α} (hs : Rise κ l) (h : isK κ k l = true) : lowK κ k l < l.length ∧ κ (Go.Gm.nth l (lowK κ k l)) = k := by
  obtain ⟨x, hx, hk⟩ := List.any_eq_true.1 h
  obtain ⟨q, hq, e⟩ := List.getElem_of_mem hx
  have hk' : κ (Go.Gm.nth l q) = k := by rw [nth_eq hq, e]; simpa using hk
  have hl := lowK_eq (κ := κ) (k := k) (l := l) (i := q) (Nat.le_of_lt hq) (fun p hp => by have := hs p q hp hq; omega) (fun p hp hp2 => by have := rise_le hs hp hp2; omega)
  rw [hl]
  exact ⟨hq, hk'⟩

theorem used_c (g : HistD) (t : TxD) (hs : SmallT g.txs) (ht : t.ops.length ≤ 1000) : FnP Tryz.prog 70 [.agg (rHist g), .agg (rTx t)] (.bool (usedH g t)) := by
  refine FnP.mk Tryz.func70 rfl Tryz.ntmps70 rfl ?_
  intro B a w F hB hfr hS
  have hsl := hs.1
  have hnl : ∀ x : TxD, x.ops.length ≤ 1000 → (needsT x).length ≤ 1000 := fun x hx => by have := needsL_len x.id x.ops x.ops.length; rw [List.take_length] at this; unfold needsT; omega
  refine wp_seq ?_
  refine region_q hS
    (cF rfl (oX 101 (.conv .t .agg)) r1 trivial
    (cF rfl (oX 102 (.conv .t .agg)) r1 trivial
    (cF rfl (oN .cb) trivial trivial
    Chain.nil)))
    hB ?_
  clear hS; intro a w F hS
  replace hS := hS.sub
  obtain ⟨F, hS⟩ := hS.nm [4, 3, 2] [102, 101, 0] rfl rfl
  try dsimp only [RS.sub, SF.sub, CF.sub, csub, Anc.sub, List.map, zCF, rHist, rTx, rOrd, rVer, rInt, rOp] at hS
  generalize Act.tau a 2 = v2 at hS
  generalize Act.tau a 3 = v3 at hS
  refine then_n (wp_seq (wp_seq ?_))
  refine region_q hS
    (cF rfl (oF 0 101 .is) r1 r1
    (cF rfl (oL false 1 101 .adr) r1 r1
    (cF rfl (o_len_sl Tryz.underlying22 .t) r1 trivial
    (cF rfl (oM (.ci (by kernel_rfl))) trivial trivial
    Chain.nil))))
    hB ?_
  clear hS; intro a w F hS
  obtain ⟨F, hS⟩ := hS.nm [12, 11, 10, 4, 3] [102, 101, 0] rfl rfl
  try dsimp only [List.map, xD, xE, xT, xU, ldSF, rHist, rTx, rOrd, rVer, rInt, rOp] at hS
  refine then_n (wp_block ?_)
  refine loop_keep (σ := (Nat)) [3, 4, 10, 11] [0, 101, 102] (fun s => [(12, .pv (.int .i64 (s : Int)))]) (fun s => []) (fun s => s ≤ g.txs.length ∧ (∀ q, q < s → usedX t (Go.Gm.nth g.txs q) = false)) (fun s => g.txs.length - s) (0) hS ⟨rfl, rfl, rfl, rfl, rfl, trivial⟩ ⟨rfl, rfl, rfl, trivial⟩ ⟨Nat.zero_le _, fun q hq => absurd hq (Nat.not_lt_zero q)⟩ ?_
  clear hS; intro i a w F hC hS
  try dsimp only at hC
  obtain ⟨F, hS⟩ := hS.nm [12, 11, 10, 4, 3] [102, 101, 0] rfl rfl
  try dsimp only at hS
  obtain ⟨hi, hq⟩ := hC
  refine wp_seq ?_
  refine region_q hS
    (cF rfl (o_lss .t .t) r2 trivial
    Chain.nil)
    hB ?_
  clear hS; intro a w F hS
  obtain ⟨F, hS⟩ := hS.nm [13, 12, 11, 10, 4, 3] [102, 101, 0] rfl rfl
  try dsimp only [rHist, rTx, rOrd, rVer, rInt, rOp] at hS
  refine then_n (wp_seq ?_)
  refine cond_b hS rfl (fun hc0 => ?_) (fun hc0 => ?_)
  ·skip
   have hil : i < g.txs.length := by simp at hc0; omega
   have hio := hil
   have hqo := hq
   have hnl2 := hnl (Go.Gm.nth g.txs i) (by have := hs.at hio; omega)
   refine wp_skip (then_n (wp_seq (wp_block (wp_seq ?_))))
   refine region_q hS
     (cF rfl (o_indexAddr_sl (sz := 3) (.mk Tryz.underlying22 (by kernel_rfl)) (by intro x; rfl) .t .t (by omega) (by omega)) r2 trivial
     (cF rfl (oR true 3 .t) r1 trivial
     (cF rfl (oH [.int .i64 0, .bool false, .slice none 0 0] 103) trivial trivial
     (cF rfl (oA 3 103 .same .t) r2 r1
     Chain.nil))))
     hB ?_
   clear hS; intro a w F hS
   replace hS := hS.sub
   obtain ⟨F, hS⟩ := hS.nm [15, 14, 13, 12, 11, 10, 6, 4, 3] [103, 102, 101, 0] rfl rfl
   try dsimp only [RS.sub, SF.sub, CF.sub, csub, Anc.sub, List.map, stCells, xL, xM, Nat.reduceAdd, xD, xE, xT, xU, xC, xN, zCF, ldSF, rHist, rTx, rOrd, rVer, rInt, rOp] at hS
   generalize Act.tau a 6 = v6 at hS
   try simp only [Int.toNat_natCast] at hS
   refine then_n (wp_seq ?_)
   refine region_q hS
     (cF rfl (oL true 3 103 .is) r1 r1
     (cF rfl (oP (txNeeds_c (Go.Gm.nth g.txs i) (by have := hs.at hio; omega)) Tryz.func79 (Args.one (.pagg .t))) r1 trivial
     (cF rfl (o_len_sl Tryz.underlying99 .t) r1 trivial
     (cF rfl (oM (.ci (by kernel_rfl))) trivial trivial
     Chain.nil))))
     hB ?_
   clear hS; intro a w F hS
   obtain ⟨F, hS⟩ := hS.nm [19, 18, 17, 16, 15, 14, 13, 12, 11, 10, 6, 4, 3] [103, 102, 101, 0] rfl rfl
   try dsimp only [List.map, xD, xE, xT, xU, ldSF, rHist, rTx, rOrd, rVer, rInt, rOp] at hS
   refine then_n (wp_block ?_)
   refine loop_keep (σ := (Nat)) [3, 4, 6, 10, 11, 12, 13, 14, 15, 16, 17, 18] [0, 101, 102, 103] (fun s => [(19, .pv (.int .i64 (s : Int)))]) (fun s => []) (fun s => s ≤ (needsT (Go.Gm.nth g.txs i)).length ∧ ((Go.Gm.nth g.txs i).id ≠ t.id → ∀ q, q < s → usedV t (Go.Gm.nth (needsT (Go.Gm.nth g.txs i)) q) = false)) (fun s => (needsT (Go.Gm.nth g.txs i)).length - s) (0) hS ⟨rfl, rfl, rfl, rfl, rfl, rfl, rfl, rfl, rfl, rfl, rfl, rfl, rfl, trivial⟩ ⟨rfl, rfl, rfl, rfl, trivial⟩ ⟨Nat.zero_le _, fun _ q hq => absurd hq (Nat.not_lt_zero q)⟩ ?_
   clear hS; intro j a w F hC hS
   try dsimp only at hC
   obtain ⟨F, hS⟩ := hS.nm [19, 18, 17, 16, 15, 14, 13, 12, 11, 10, 6, 4, 3] [103, 102, 101, 0] rfl rfl
   try dsimp only at hS
   obtain ⟨hi, hq⟩ := hC
   have hq2 := hq
   refine wp_seq ?_
   refine region_q hS
     (cF rfl (o_lss .t .t) r2 trivial
     Chain.nil)
     hB ?_
   clear hS; intro a w F hS
   obtain ⟨F, hS⟩ := hS.nm [20, 19, 18, 17, 16, 15, 14, 13, 12, 11, 10, 6, 4, 3] [103, 102, 101, 0] rfl rfl
   try dsimp only [rHist, rTx, rOrd, rVer, rInt, rOp] at hS
   refine then_n (wp_seq ?_)
   refine cond_b hS rfl (fun hc1 => ?_) (fun hc1 => ?_)
   ·skip
    have hil : j < (needsT (Go.Gm.nth g.txs i)).length := by simp at hc1; omega
    have hjo := hil
    refine wp_skip (then_n (wp_seq (wp_block (wp_seq ?_))))
    refine region_q hS
      (cF rfl (o_indexAddr_sl (sz := 3) (.mk Tryz.underlying99 (by kernel_rfl)) (by intro x; rfl) .t .t (by omega) (by omega)) r2 trivial
      (cF rfl (oR true 3 .t) r1 trivial
      (cF rfl (oH [.int .i64 0, .int .i64 0, .int .i64 0] 104) trivial trivial
      (cF rfl (oA 3 104 .same .t) r2 r1
      Chain.nil))))
      hB ?_
    clear hS; intro a w F hS
    replace hS := hS.sub
    obtain ⟨F, hS⟩ := hS.nm [22, 21, 20, 19, 18, 17, 16, 15, 14, 13, 12, 11, 10, 8, 6, 4, 3] [104, 103, 102, 101, 0] rfl rfl
    try dsimp only [RS.sub, SF.sub, CF.sub, csub, Anc.sub, List.map, stCells, xL, xM, Nat.reduceAdd, xD, xE, xT, xU, xC, xN, zCF, ldSF, rHist, rTx, rOrd, rVer, rInt, rOp] at hS
    generalize Act.tau a 8 = v8 at hS
    try simp only [Int.toNat_natCast] at hS
    refine then_n (wp_seq ?_)
    refine region_any (by kernel_rfl) hS (by kernel_rfl)
      (cF rfl (oF 0 103 .is) r1 r1
      (cF rfl (oL false 1 103 .adr) r1 r1
      (cF rfl (oF 0 102 .is) r1 r1
      (cF rfl (oL false 1 102 .adr) r1 r1
      (cF rfl (o_neq .t .t) r2 trivial
      (cF rfl (oM .t) r1 trivial
      (Chain.cons (Cert.cond rfl rfl (fun h => o_fieldAddr (off := 0) 104 .is (by kernel_rfl) (by rfl))) r2 r1
      (Chain.cons (Cert.cond rfl rfl (fun h => o_load (ag := false) (sz := 1) 104 (.w h .adr) (by kernel_rfl) (by kernel_rfl) (by kernel_rfl) (by rfl))) r2 r1
      (Chain.cons (Cert.cond rfl rfl (fun h => o_fieldAddr (off := 0) 102 .is (by kernel_rfl) (by rfl))) r2 r1
      (Chain.cons (Cert.cond rfl rfl (fun h => o_load (ag := false) (sz := 1) 102 (.w h .adr) (by kernel_rfl) (by kernel_rfl) (by kernel_rfl) (by rfl))) r2 r1
      (Chain.cons (Cert.cond rfl rfl (fun h => o_eql (.w h) (.w h))) r3 trivial
      (cF rfl (o_and2 .t .t) r2 trivial
      (cF rfl (oM .t) r1 trivial
      (Chain.cons (Cert.cond rfl rfl (fun h => o_fieldAddr (off := 2) 104 .is (by kernel_rfl) (by rfl))) r2 r1
      (Chain.cons (Cert.cond rfl rfl (fun h => o_load (ag := false) (sz := 1) 104 (.w h .adr) (by kernel_rfl) (by kernel_rfl) (by kernel_rfl) (by rfl))) r2 r1
      (Chain.cons (Cert.cond rfl rfl (fun h => o_load (ag := true) (sz := 3) 102 .is (by kernel_rfl) (by kernel_rfl) (by kernel_rfl) (by rfl))) r2 r1
      (Chain.cons (Cert.cond rfl rfl (fun h => o_fieldAddr (off := 1) 104 .is (by kernel_rfl) (by rfl))) r2 r1
      (Chain.cons (Cert.cond rfl rfl (fun h => o_load (ag := false) (sz := 1) 104 (.w h .adr) (by kernel_rfl) (by kernel_rfl) (by kernel_rfl) (by rfl))) r2 r1
      (Chain.cons (Cert.cond rfl rfl (fun h => o_callP (twrites_c t (Go.Gm.nth (needsT (Go.Gm.nth g.txs i)) j).key (by omega)) Tryz.func48 rfl (by kernel_rfl) (Args.two (.pagg (.w h)) (.w h)))) r3 trivial
      (Chain.cons (Cert.cond rfl rfl (fun h => o_gtr (.w h) (.w h))) r3 trivial
      (cF rfl (o_and2 .t .t) r2 trivial
      Chain.nil)))))))))))))))))))))
      (by kernel_rfl) (by rw [hB]; kernel_rfl) ?_
    clear hS; intro a w F hS
    obtain ⟨F, hS⟩ := hS.nm [43, 42, 41, 40, 39, 38, 37, 36, 35, 34, 33, 32, 31, 30, 29, 28, 27, 26, 25, 24, 23, 22, 21, 20, 19, 18, 17, 16, 15, 14, 13, 12, 11, 10, 8, 6, 4, 3] [104, 103, 102, 101, 0] rfl rfl
    try dsimp only [List.map, xD, xE, xT, xU, ldSF, rHist, rTx, rOrd, rVer, rInt, rOp] at hS
    refine then_n ?_
    refine cond_b hS rfl (fun hc2 => ?_) (fun hc2 => ?_)
    ·skip
     have hg : true = usedH g t := (any_some hio (by
       have h9 := hc2
       simp at h9
       unfold usedX
       rw [decide_eq_true h9.1.1, Bool.true_and]
       refine any_some hjo ?_
       unfold usedV wcnt
       simp [h9.1.2]
       first | exact h9.2 | (have := h9.2; omega))).symm
     refine wp_seq ?_
     refine region_q hS
       (cF rfl (oN .cb) trivial trivial
       Chain.nil)
       hB ?_
     clear hS; intro a w F hS
     obtain ⟨F, hS⟩ := hS.nm [43, 42, 41, 40, 39, 38, 37, 36, 35, 34, 33, 32, 31, 30, 29, 28, 27, 26, 25, 24, 23, 22, 21, 20, 19, 18, 17, 16, 15, 14, 13, 12, 11, 10, 8, 6, 4, 3] [104, 103, 102, 101, 0] rfl rfl
     try dsimp only [rHist, rTx, rOrd, rVer, rInt, rOp] at hS
     refine then_n (wp_ret (block_r (then_r (then_r (block_r (block_r (then_r (then_r (block_r (then_r ?_))))))))))
     refine ret_P hfr hS rfl (.tmp rfl .nil) (.one (.bool hg))
    have hnv : (Go.Gm.nth g.txs i).id ≠ t.id → usedV t (Go.Gm.nth (needsT (Go.Gm.nth g.txs i)) j) = false := by
      intro hne
      have h9 := hc2
      unfold usedV wcnt
      simp [hne] at h9 ⊢
      first | exact h9 | (intro e; have := h9 e; omega)
    refine wp_skip (block_n (then_n ?_))
    refine region_q hS
      (cF rfl (o_add .t (.ci (by kernel_rfl))) r1 trivial
      (cF rfl (oM .t) r1 trivial
      Chain.nil))
      hB ?_
    clear hS; intro a w F hS
    obtain ⟨F, hS⟩ := hS.nm [44, 43, 42, 41, 40, 39, 38, 37, 36, 35, 34, 33, 32, 31, 30, 29, 28, 27, 26, 25, 24, 23, 22, 21, 20, 19, 18, 17, 16, 15, 14, 13, 12, 11, 10, 8, 6, 4, 3] [104, 103, 102, 101, 0] rfl rfl
    try dsimp only [rHist, rTx, rOrd, rVer, rInt, rOp] at hS
    refine then_n ?_
    replace hS := hS.ent (i := 19) (s' := .pv (.int .i64 ((j + 1 : Nat) : Int))) rfl (.int (wrap_succ (by omega)))
    obtain ⟨F, hS⟩ := hS.nm [18, 17, 16, 15, 14, 13, 12, 11, 10, 6, 4, 3, 19] [103, 102, 101, 0] rfl rfl
    exact ⟨(j + 1), F, ⟨by omega, (fun hne q h9 => by rcases Nat.lt_or_eq_of_le (Nat.le_of_lt_succ h9) with h8 | h8; exact hq2 hne q h8; rw [h8]; exact hnv hne)⟩, hS, by omega⟩
   have hil : j = (needsT (Go.Gm.nth g.txs i)).length := by simp at hc1; omega
   have hno : usedX t (Go.Gm.nth g.txs i) = false := by
     unfold usedX
     by_cases hne : (Go.Gm.nth g.txs i).id ≠ t.id
     · rw [any_none (by rw [← hil]; exact hq2 hne), Bool.and_false]
     · rw [decide_eq_false hne, Bool.false_and]
   refine wp_exit (then_x (then_x (block_x (block_n (then_n ?_)))))
   refine region_q hS
     (cF rfl (o_add .t (.ci (by kernel_rfl))) r1 trivial
     (cF rfl (oM .t) r1 trivial
     Chain.nil))
     hB ?_
   clear hS; intro a w F hS
   obtain ⟨F, hS⟩ := hS.nm [45, 20, 19, 18, 17, 16, 15, 14, 13, 12, 11, 10, 6, 4, 3] [103, 102, 101, 0] rfl rfl
   try dsimp only [rHist, rTx, rOrd, rVer, rInt, rOp] at hS
   refine then_n ?_
   replace hS := hS.ent (i := 12) (s' := .pv (.int .i64 ((i + 1 : Nat) : Int))) rfl (.int (wrap_succ (by omega)))
   obtain ⟨F, hS⟩ := hS.nm [11, 10, 4, 3, 12] [102, 101, 0] rfl rfl
   exact ⟨(i + 1), F, ⟨by omega, (fun q h9 => by rcases Nat.lt_or_eq_of_le (Nat.le_of_lt_succ h9) with h8 | h8; exact hqo q h8; rw [h8]; exact hno)⟩, hS, by omega⟩
  have hil : i = g.txs.length := by simp at hc0; omega
  have hg : false = usedH g t := (any_none (by rw [← hil]; exact hq)).symm
  refine wp_exit (then_x (then_x (block_x (then_n (wp_seq ?_)))))
  refine region_q hS
    (cF rfl (oN .cb) trivial trivial
    Chain.nil)
    hB ?_
  clear hS; intro a w F hS
  obtain ⟨F, hS⟩ := hS.nm [4] [102, 101, 0] rfl rfl
  try dsimp only [rHist, rTx, rOrd, rVer, rInt, rOp] at hS
  refine then_n (wp_ret ?_)
  refine ret_P hfr hS rfl (.tmp rfl .nil) (.one (.bool hg))

theorem may_c (g : HistD) (t : TxD) (there : Int) (wanted : Bool) (hs : Small g) (ht : t.ops.length ≤ 1000) : FnP Tryz.prog 65 [.agg (rHist g), .agg (rTx t), .int .i64 there, .bool wanted] (.tup [.int .i64 (mayH g t there wanted).1, .int .i64 (mayH g t there wanted).2]) := by
  refine FnP.mk Tryz.func65 rfl Tryz.ntmps65 rfl ?_
  intro B a w F hB hfr hS
  have hsl := hs.1.1
  refine wp_seq ?_
  refine region_q hS
    (cF rfl (oX 101 (.conv .t .agg)) r1 trivial
    (cF rfl (oX 102 (.conv .t .agg)) r1 trivial
    (cF rfl (oN (.ci (by kernel_rfl))) trivial trivial
    (cF rfl (oN (.ci (by kernel_rfl))) trivial trivial
    Chain.nil))))
    hB ?_
  clear hS; intro a w F hS
  replace hS := hS.sub
  obtain ⟨F, hS⟩ := hS.nm [9, 8, 5, 4, 3, 2] [102, 101, 0] rfl rfl
  try dsimp only [RS.sub, SF.sub, CF.sub, csub, Anc.sub, List.map, zCF, rHist, rTx, rOrd, rVer, rInt, rOp] at hS
  generalize Act.tau a 4 = v4 at hS
  generalize Act.tau a 5 = v5 at hS
  refine then_n (wp_seq (wp_seq ?_))
  refine region_q hS
    (cF rfl (oL true 2 101 .is) r1 r1
    (cF rfl (oP (rightH_c g hs) Tryz.func12 (Args.one (.pagg .t))) r1 trivial
    (cF rfl (o_not .t) r1 trivial
    Chain.nil)))
    hB ?_
  clear hS; intro a w F hS
  obtain ⟨F, hS⟩ := hS.nm [15, 9, 8, 5, 4, 3, 2] [102, 101, 0] rfl rfl
  try dsimp only [List.map, xD, xE, xT, xU, ldSF, rHist, rTx, rOrd, rVer, rInt, rOp] at hS
  refine then_n ?_
  refine cond_b hS rfl (fun hc0 => ?_) (fun hc0 => ?_)
  ·skip
   have hr : ¬ RightH g := by simpa using hc0
   have hg : mayH g t there wanted = (0, 5) := by unfold mayH; rw [if_pos hr]
   refine wp_seq ?_
   refine region_q hS
     (cF rfl (oN (.ci (by kernel_rfl))) trivial trivial
     (cF rfl (oN (.ci (by kernel_rfl))) trivial trivial
     Chain.nil))
     hB ?_
   clear hS; intro a w F hS
   obtain ⟨F, hS⟩ := hS.nm [9, 8, 5, 4, 3, 2] [102, 101, 0] rfl rfl
   try dsimp only [rHist, rTx, rOrd, rVer, rInt, rOp] at hS
   refine then_n (wp_ret (then_r ?_))
   refine ret_P hfr hS rfl (.tmp rfl (.tmp rfl .nil)) (.two (.int (by rw [hg])) (.int (by rw [hg])))
  have hr : RightH g := by simpa using hc0
  have hrr := right_rise hr
  refine wp_skip (then_n (wp_seq (wp_seq ?_)))
  refine region_q hS
    (cF rfl (oL true 3 102 .is) r1 r1
    (cF rfl (oP (txRight_c t) Tryz.func36 (Args.one (.pagg .t))) r1 trivial
    (cF rfl (oN .t) r1 trivial
    Chain.nil)))
    hB ?_
  clear hS; intro a w F hS
  obtain ⟨F, hS⟩ := hS.nm [10, 9, 8, 5, 4, 3, 2] [102, 101, 0] rfl rfl
  try dsimp only [List.map, xD, xE, xT, xU, ldSF, rHist, rTx, rOrd, rVer, rInt, rOp] at hS
  refine then_n (wp_seq ?_)
  refine region_q hS
    (cF rfl (oM .t) r1 trivial
    (cF rfl (o_neq .t (.ci (by kernel_rfl))) r1 trivial
    Chain.nil))
    hB ?_
  clear hS; intro a w F hS
  obtain ⟨F, hS⟩ := hS.nm [19, 10, 9, 8, 5, 4, 3, 2] [102, 101, 0] rfl rfl
  try dsimp only [rHist, rTx, rOrd, rVer, rInt, rOp] at hS
  refine then_n ?_
  refine cond_b hS rfl (fun hc1 => ?_) (fun hc1 => ?_)
  ·skip
   have hrt : rightT t ≠ 0 := by simpa using hc1
   have hg : mayH g t there wanted = (0, rightT t) := by unfold mayH; rw [if_neg (Decidable.not_not.2 hr), if_pos hrt]
   refine wp_seq ?_
   refine region_q hS
     (cF rfl (oM .t) r1 trivial
     (cF rfl (oN (.ci (by kernel_rfl))) trivial trivial
     (cF rfl (oN .t) r1 trivial
     Chain.nil)))
     hB ?_
   clear hS; intro a w F hS
   obtain ⟨F, hS⟩ := hS.nm [9, 8, 5, 4, 3, 2] [102, 101, 0] rfl rfl
   try dsimp only [rHist, rTx, rOrd, rVer, rInt, rOp] at hS
   refine then_n (wp_ret (then_r ?_))
   refine ret_P hfr hS rfl (.tmp rfl (.tmp rfl .nil)) (.two (.int (by rw [hg])) (.int (by rw [hg])))
  have hrt : ¬ rightT t ≠ 0 := by simpa using hc1
  refine wp_skip (then_n (wp_seq ?_))
  refine region_q hS
    (cF rfl (oL true 2 101 .is) r1 r1
    (cF rfl (oF 0 102 .is) r1 r1
    (cF rfl (oL false 1 102 .adr) r1 r1
    (cF rfl (oP (place_c g t.id hs.1 hrr.1) Tryz.func69 (Args.two (.pagg .t) .t)) r2 trivial
    (cF rfl (oM .t) r1 trivial
    (cF rfl (o_extract .t rfl) r1 trivial
    (cF rfl (o_extract .t rfl) r1 trivial
    (cF rfl (oN .t) r1 trivial
    (cF rfl (oN .t) r1 trivial
    Chain.nil)))))))))
    hB ?_
  clear hS; intro a w F hS
  obtain ⟨F, hS⟩ := hS.nm [12, 11, 9, 8, 5, 4, 3, 2] [102, 101, 0] rfl rfl
  try dsimp only [List.map, xD, xE, xT, xU, ldSF, rHist, rTx, rOrd, rVer, rInt, rOp] at hS
  refine then_n (wp_seq (wp_block (wp_seq ?_)))
  refine region_q hS
    (cF rfl (oM .t) r1 trivial
    (cF rfl (oM .t) r1 trivial
    (cF rfl (o_neqB Tryz.underlying4 .t .t) r2 trivial
    (cF rfl (oN .t) r1 trivial
    Chain.nil))))
    hB ?_
  clear hS; intro a w F hS
  obtain ⟨F, hS⟩ := hS.nm [28, 11, 9, 8, 5, 4, 2] [102, 101, 0] rfl rfl
  try dsimp only [rHist, rTx, rOrd, rVer, rInt, rOp] at hS
  refine then_n ?_
  refine cond_b hS rfl (fun hc2 => ?_) (fun hc2 => ?_)
  ·skip
   have hwt : isK TxD.id t.id g.txs ≠ wanted := by simpa using hc2
   have hg : mayH g t there wanted = (0, there) := by unfold mayH; rw [if_neg (Decidable.not_not.2 hr), if_neg hrt, if_pos hwt]
   refine wp_seq ?_
   refine region_q hS
     (cF rfl (oM .t) r1 trivial
     (cF rfl (oN (.ci (by kernel_rfl))) trivial trivial
     (cF rfl (oN .t) r1 trivial
     Chain.nil)))
     hB ?_
   clear hS; intro a w F hS
   obtain ⟨F, hS⟩ := hS.nm [11, 9, 8] [102, 101, 0] rfl rfl
   try dsimp only [rHist, rTx, rOrd, rVer, rInt, rOp] at hS
   refine then_n (wp_ret (block_r (then_r ?_)))
   refine ret_P hfr hS rfl (.tmp rfl (.tmp rfl .nil)) (.two (.int (by rw [hg])) (.int (by rw [hg])))
  have hwt : ¬ isK TxD.id t.id g.txs ≠ wanted := by simpa using hc2
  refine wp_seq ?_
  refine region_q hS
    (cF rfl (oL true 2 101 .is) r1 r1
    (cF rfl (oL true 3 102 .is) r1 r1
    (cF rfl (oP (needed_c g t hs.1 ht) Tryz.func37 (Args.two (.pagg .t) (.pagg .t))) r2 trivial
    (cF rfl (o_not .t) r1 trivial
    (cF rfl (oN .t) r1 trivial
    Chain.nil)))))
    hB ?_
  clear hS; intro a w F hS
  obtain ⟨F, hS⟩ := hS.nm [33, 11, 9, 8] [102, 101, 0] rfl rfl
  try dsimp only [List.map, xD, xE, xT, xU, ldSF, rHist, rTx, rOrd, rVer, rInt, rOp] at hS
  refine then_n ?_
  refine cond_b hS rfl (fun hc3 => ?_) (fun hc3 => ?_)
  ·skip
   have hg : mayH g t there wanted = (0, 6) := by unfold mayH; rw [if_neg (Decidable.not_not.2 hr), if_neg hrt, if_neg hwt, if_pos (by simpa using hc3)]
   refine wp_seq ?_
   refine region_q hS
     (cF rfl (oN (.ci (by kernel_rfl))) trivial trivial
     (cF rfl (oN (.ci (by kernel_rfl))) trivial trivial
     Chain.nil))
     hB ?_
   clear hS; intro a w F hS
   obtain ⟨F, hS⟩ := hS.nm [11, 9, 8] [102, 101, 0] rfl rfl
   try dsimp only [rHist, rTx, rOrd, rVer, rInt, rOp] at hS
   refine then_n (wp_ret (block_r (then_r ?_)))
   refine ret_P hfr hS rfl (.tmp rfl (.tmp rfl .nil)) (.two (.int (by rw [hg])) (.int (by rw [hg])))
  have hg : mayH g t there wanted = (((lowK TxD.id t.id g.txs : Nat) : Int), 0) := by unfold mayH; rw [if_neg (Decidable.not_not.2 hr), if_neg hrt, if_neg hwt, if_neg (by simpa using hc3)]
  refine wp_skip (block_n (then_n (wp_seq ?_)))
  refine region_q hS
    (cF rfl (oM .t) r1 trivial
    (cF rfl (oN .t) r1 trivial
    (cF rfl (oN (.ci (by kernel_rfl))) trivial trivial
    Chain.nil)))
    hB ?_
  clear hS; intro a w F hS
  obtain ⟨F, hS⟩ := hS.nm [9, 8] [102, 101, 0] rfl rfl
  try dsimp only [rHist, rTx, rOrd, rVer, rInt, rOp] at hS
  refine then_n (wp_ret ?_)
  refine ret_P hfr hS rfl (.tmp rfl (.tmp rfl .nil)) (.two (.int (by rw [hg])) (.int (by rw [hg])))

end Go.Proofs.YtpjjmolibanakaaGreat
namespace Go.Proofs.YtpjjmolibanakaaGreat
open Go Go.Gm
set_option linter.unusedVariables false
set_option linter.unusedSimpArgs false
set_option maxHeartbeats 4000000
set_option maxRecDepth 8000


theorem hInsert_c (g : HistD) (t : TxD) (hs : Small g) (ht : t.ops.length ≤ 1000) : FnP Tryz.prog 29 [.agg (rHist g), .agg (rTx t)] (.tup [.agg (rHist (insertH g t).1), .int .i64 (insertH g t).2]) := by
  refine FnP.mk Tryz.func29 rfl Tryz.ntmps29 rfl ?_
  intro B a w F hB hfr hS
  have hsl := hs.1.1
  refine wp_seq ?_
  refine region_q hS
    (cF rfl (oX 101 (.conv .t .agg)) r1 trivial
    (cF rfl (oX 102 (.conv .t .agg)) r1 trivial
    (cF rfl (oH [.slice none 0 0, .slice none 0 0] 103) trivial trivial
    (cF rfl (oN (.ci (by kernel_rfl))) trivial trivial
    Chain.nil))))
    hB ?_
  clear hS; intro a w F hS
  replace hS := hS.sub
  obtain ⟨F, hS⟩ := hS.nm [5, 4, 3, 2] [103, 102, 101, 0] rfl rfl
  try dsimp only [RS.sub, SF.sub, CF.sub, csub, Anc.sub, List.map, zCF, rHist, rTx, rOrd, rVer, rInt, rOp] at hS
  generalize Act.tau a 2 = v2 at hS
  generalize Act.tau a 3 = v3 at hS
  generalize Act.tau a 4 = v4 at hS
  refine then_n (wp_seq ?_)
  refine region_q hS
    (cF rfl (oL true 2 101 .is) r1 r1
    (cF rfl (oL true 3 102 .is) r1 r1
    (cF rfl (oP (may_c g t 4 false hs ht) Tryz.func65 (Args.four (.pagg .t) (.pagg .t) (.ci (by kernel_rfl)) .cb)) r2 trivial
    (cF rfl (oM .t) r1 trivial
    (cF rfl (o_extract .t rfl) r1 trivial
    (cF rfl (o_extract .t rfl) r1 trivial
    (cF rfl (oN .t) r1 trivial
    (cF rfl (oN .t) r1 trivial
    Chain.nil))))))))
    hB ?_
  clear hS; intro a w F hS
  obtain ⟨F, hS⟩ := hS.nm [7, 6, 5, 4, 3, 2] [103, 102, 101, 0] rfl rfl
  try dsimp only [List.map, xD, xE, xT, xU, ldSF, rHist, rTx, rOrd, rVer, rInt, rOp] at hS
  refine then_n (wp_seq (wp_block (wp_seq ?_)))
  refine region_q hS
    (cF rfl (oM .t) r1 trivial
    (cF rfl (o_neq .t (.ci (by kernel_rfl))) r1 trivial
    (cF rfl (oN .t) r1 trivial
    Chain.nil)))
    hB ?_
  clear hS; intro a w F hS
  obtain ⟨F, hS⟩ := hS.nm [15, 7, 6, 5, 4, 3, 2] [103, 102, 101, 0] rfl rfl
  try dsimp only [rHist, rTx, rOrd, rVer, rInt, rOp] at hS
  refine then_n ?_
  refine cond_b hS rfl (fun hc0 => ?_) (fun hc0 => ?_)
  ·skip
   have hm : (mayH g t 4 false).2 ≠ 0 := by simpa using hc0
   have hg : insertH g t = (zeroH, (mayH g t 4 false).2) := by unfold insertH; rw [if_pos hm]
   refine wp_seq ?_
   refine region_q hS
     (cF rfl (oB [] [.slice none 0 0, .slice none 0 0] [(0, 1), (1, 1)] .nil) trivial trivial
     (cF rfl (oM .t) r1 trivial
     (cF rfl (oA 2 103 .is .t) r2 r1
     (cF rfl (oN .t) r1 trivial
     Chain.nil))))
     hB ?_
   clear hS; intro a w F hS
   obtain ⟨F, hS⟩ := hS.nm [6, 5, 4, 3, 2] [103, 102, 101, 0] rfl rfl
   try dsimp only [List.map, stCells, xL, xM, Nat.reduceAdd, xD, xE, xT, xU, xC, xN, zCF, rHist, rTx, rOrd, rVer, rInt, rOp] at hS
   refine then_n (wp_ret (block_r (then_r ?_)))
   refine ret_P hfr hS rfl (.cell (n := 103) (ag := true) (sz := 2) rfl .is rfl (by kernel_rfl) (by kernel_rfl) (by kernel_rfl) (.tmp rfl .nil)) (.two (by rw [hg]; first | exact .aggU rfl rfl | exact .aggLe rfl ⟨PVLe.nilSl, PVLe.nilSl, trivial⟩) (.int (by rw [hg])))
  have hm : ¬ (mayH g t 4 false).2 ≠ 0 := by simpa using hc0
  obtain ⟨hr, hrt, hik, hnd, hlo⟩ := may_ok (by decide) (Decidable.not_not.1 hm)
  have hrr := right_rise hr
  have hlk := lowK_le (κ := TxD.id) (k := t.id) g.txs
  refine wp_seq ?_
  refine region_q hS
    (cF rfl (oF 0 101 .is) r1 r1
    (cF rfl (oL false 1 101 .adr) r1 r1
    (cF rfl (o_len_sl Tryz.underlying22 .t) r1 trivial
    (cF rfl (o_eql .t (.ci (by kernel_rfl))) r1 trivial
    (cF rfl (oN .t) r1 trivial
    Chain.nil)))))
    hB ?_
  clear hS; intro a w F hS
  obtain ⟨F, hS⟩ := hS.nm [20, 6, 5, 4, 3, 2] [103, 102, 101, 0] rfl rfl
  try dsimp only [List.map, xD, xE, xT, xU, ldSF, rHist, rTx, rOrd, rVer, rInt, rOp] at hS
  refine then_n ?_
  refine cond_b hS rfl (fun hc1 => ?_) (fun hc1 => ?_)
  ·skip
   have hg : insertH g t = (zeroH, 2) := by unfold insertH; rw [if_neg hm, if_pos (by simp at hc1; omega)]
   refine wp_seq ?_
   refine region_q hS
     (cF rfl (oB [] [.slice none 0 0, .slice none 0 0] [(0, 1), (1, 1)] .nil) trivial trivial
     (cF rfl (oA 2 103 .is .t) r2 r1
     (cF rfl (oN (.ci (by kernel_rfl))) trivial trivial
     Chain.nil)))
     hB ?_
   clear hS; intro a w F hS
   obtain ⟨F, hS⟩ := hS.nm [6, 5, 4, 3, 2] [103, 102, 101, 0] rfl rfl
   try dsimp only [List.map, stCells, xL, xM, Nat.reduceAdd, xD, xE, xT, xU, xC, xN, zCF, rHist, rTx, rOrd, rVer, rInt, rOp] at hS
   refine then_n (wp_ret (block_r (then_r ?_)))
   refine ret_P hfr hS rfl (.cell (n := 103) (ag := true) (sz := 2) rfl .is rfl (by kernel_rfl) (by kernel_rfl) (by kernel_rfl) (.tmp rfl .nil)) (.two (by rw [hg]; first | exact .aggU rfl rfl | exact .aggLe rfl ⟨PVLe.nilSl, PVLe.nilSl, trivial⟩) (.int (by rw [hg])))
  have hg : insertH g t = (⟨g.txs.take (lowK TxD.id t.id g.txs) ++ [t] ++ g.txs.drop (lowK TxD.id t.id g.txs), settleO t g.orders⟩, 0) := by unfold insertH; rw [if_neg hm, if_neg (by simp at hc1; omega)]
  refine wp_skip (block_n (then_n (wp_seq ?_)))
  replace hS := hS.fresh 104 rfl
  refine region_q hS
    (cF rfl (oL true 2 101 .is) r1 r1
    (cF rfl (o_callFA 104 (clone_c g hs) Tryz.func66 rfl (by kernel_rfl) (Args.one (.pagg .t))) r1 r1
    (cF rfl (oH [.slice none 0 0, .slice none 0 0] 105) trivial trivial
    (cF rfl (oA 2 105 .same (.conv .t (Ent.fnAgg (.fn (.fn .nil))))) r2 r1
    Chain.nil))))
    hB ?_
  clear hS; intro a w F hS
  replace hS := hS.sub
  obtain ⟨F, hS⟩ := hS.nm [8, 6, 5, 4, 3] [105, 104, 103, 102, 101, 0] rfl rfl
  try dsimp only [RS.sub, SF.sub, CF.sub, csub, Anc.sub, List.map, stCells, xL, xM, Nat.reduceAdd, xD, xE, xT, xU, xC, xN, zCF, ldSF, rHist, rTx, rOrd, rVer, rInt, rOp] at hS
  generalize Act.tau a 8 = v8 at hS
  generalize Act.tau a 27 = v27 at hS
  replace hS := hS.turn 104 rfl (r' := RS.hp (HP.star [.ob (.val (cellN 0 v27)) (rowH 32 3 rTx g.txs), .ob (.val (cellN 1 v27)) (rowH 46 2 rOrd g.orders)])) (fun _ _ _ _ h => h)
  obtain ⟨F, hS⟩ := hS.peel 104 70 rfl rfl
  obtain ⟨F, hS⟩ := hS.peel 104 71 rfl rfl
  obtain ⟨F, hS⟩ := hS.nm [8, 6, 5, 4, 3] [105, 103, 102, 101, 71, 70, 0] rfl rfl
  generalize cellN 0 v27 = va at hS
  generalize cellN 1 v27 = vb at hS
  refine then_n (wp_seq ?_)
  refine region_any (by kernel_rfl) hS (by kernel_rfl)
    (cF rfl (oF 0 105 .is) r1 r1
    (cF rfl (oL false 1 105 .adr) r1 r1
    (cF rfl (oM .t) r1 trivial
    (cF rfl (oL true 3 102 .is) r1 r1
    (cF rfl (oP (copied_c t (by omega)) Tryz.func34 (Args.one (.pagg .t))) r1 trivial
    (cF rfl (o_buildSliceE (sz := 3) (zs := [.int .i64 0, .bool false, .slice none 0 0]) (r := [(0, .tmp 32)]) (l := [_, _, _]) Tryz.underlying22 (by kernel_rfl) (by kernel_rfl) (by kernel_rfl) (by kernel_rfl) rfl rfl (.agg rfl (.conv .t .agg) (by kernel_rfl) (by kernel_rfl) .nil) rfl) r1 trivial
    (cF rfl (o_callRowN 70 (insT_c va g.txs (lowK TxD.id t.id g.txs) t (by omega) hlk) Tryz.func67 rfl (by kernel_rfl) (Args.three .t (.conv .t (.int hlo)) (.conv .t (Ent.arrSl (R := rTx) (l := [t]) rfl))) pvOne1) r3 r1
    (cF rfl (oF 0 105 .is) r1 r1
    (cF rfl (o_storeS 105 .adr (by kernel_rfl) (by kernel_rfl)) r2 r1
    Chain.nil)))))))))
    (by kernel_rfl) (by rw [hB]; kernel_rfl) ?_
  clear hS; intro a w F hS
  replace hS := hS.sub
  obtain ⟨F, hS⟩ := hS.nm [8, 5, 4, 3] [105, 103, 102, 101, 71, 70, 0] rfl rfl
  try dsimp only [RS.sub, SF.sub, CF.sub, csub, Anc.sub, List.map, stCells, xL, xM, Nat.reduceAdd, xD, xE, xT, xU, xC, xN, zCF, ldSF, rHist, rTx, rOrd, rVer, rInt, rOp] at hS
  generalize Act.tau a 34 = v34 at hS
  refine then_n (wp_seq ?_)
  replace hS := hS.fresh 72 rfl
  obtain ⟨F, hS⟩ := hS.push 72 71 rfl rfl rfl rfl
  obtain ⟨F, hS⟩ := hS.push 72 105 rfl rfl rfl rfl
  replace hS := hS.turn 72 rfl (r' := RS.hp (bookH 25 46 v8 v34 g.orders)) (fun _ _ _ _ h => ⟨vb, h⟩)
  obtain ⟨F, hS⟩ := hS.nm [8, 5, 4, 3] [103, 102, 101, 72, 70, 0] rfl rfl
  refine region_q hS
    (cF rfl (oL true 3 102 .is) r1 r1
    (cF rfl (o_callG1 72 (settle_c v8 v34 g.orders t hs.2 hrr.2 ht) Tryz.func68 rfl (by kernel_rfl) (Args.two .t (.pagg .t))) r2 r1
    Chain.nil))
    hB ?_
  clear hS; intro a w F hS
  obtain ⟨F, hS⟩ := hS.nm [8, 5, 4] [103, 102, 101, 72, 70, 0] rfl rfl
  try dsimp only [List.map, xD, xE, xT, xU, ldSF, rHist, rTx, rOrd, rVer, rInt, rOp] at hS
  replace hS := hS.turn 72 rfl (r' := RS.hp (HP.ex fun vb : Value => HP.star [.pt (.val v8) 25 [.pv (.is v34), .pv (.is vb)], .ob (.val vb) (rowH 46 2 rOrd (settleO t g.orders))])) (fun _ _ _ _ h => h)
  obtain ⟨vb2, hS⟩ := hS.open_ex 72 rfl
  obtain ⟨F, hS⟩ := hS.peel 72 73 rfl rfl
  obtain ⟨F, hS⟩ := hS.peel 72 74 rfl rfl
  obtain ⟨F, hS⟩ := hS.nm [8, 5, 4] [103, 102, 101, 74, 73, 70, 0] rfl rfl
  obtain ⟨F, hS⟩ := hS.giveCell 70 73 0 rfl rfl rfl rfl rfl
  try dsimp only [List.set] at hS
  obtain ⟨F, hS⟩ := hS.nm [8, 5, 4] [103, 102, 101, 74, 73, 0] rfl rfl
  obtain ⟨F, hS⟩ := hS.giveCell 74 73 1 rfl rfl rfl rfl rfl
  try dsimp only [List.set] at hS
  obtain ⟨F, hS⟩ := hS.nm [8, 5, 4] [103, 102, 101, 73, 0] rfl rfl
  refine then_n (wp_seq ?_)
  refine region_q hS
    (cF rfl (oL true 2 73 .is) r1 r1
    (cF rfl (oA 2 103 .is .t) r2 r1
    (cF rfl (oN (.ci (by kernel_rfl))) trivial trivial
    Chain.nil)))
    hB ?_
  clear hS; intro a w F hS
  obtain ⟨F, hS⟩ := hS.nm [5, 4] [103, 102, 101, 73, 0] rfl rfl
  try dsimp only [List.map, stCells, xL, xM, Nat.reduceAdd, xD, xE, xT, xU, xC, xN, zCF, ldSF, rHist, rTx, rOrd, rVer, rInt, rOp] at hS
  refine then_n (wp_ret ?_)
  refine ret_P hfr hS rfl (.cell (n := 103) (ag := true) (sz := 2) rfl .is rfl (by kernel_rfl) (by kernel_rfl) (by kernel_rfl) (.tmp rfl .nil)) (.two (by rw [hg]; first | exact .aggU rfl rfl | exact .aggLe rfl ⟨PVLe.nilSl, PVLe.nilSl, trivial⟩) (.int (by rw [hg])))

theorem hDelete_c (g : HistD) (id : Int) (hs : Small g) : FnP Tryz.prog 30 [.agg (rHist g), .int .i64 id] (.tup [.agg (rHist (deleteH g id).1), .int .i64 (deleteH g id).2]) := by
  refine FnP.mk Tryz.func30 rfl Tryz.ntmps30 rfl ?_
  intro B a w F hB hfr hS
  have hsl := hs.1.1
  refine wp_seq ?_
  refine region_q hS
    (cF rfl (oX 101 (.conv .t .agg)) r1 trivial
    (cF rfl (oH [.slice none 0 0, .slice none 0 0] 102) trivial trivial
    (cF rfl (oN (.ci (by kernel_rfl))) trivial trivial
    Chain.nil)))
    hB ?_
  clear hS; intro a w F hS
  replace hS := hS.sub
  obtain ⟨F, hS⟩ := hS.nm [5, 4, 2, 1] [102, 101, 0] rfl rfl
  try dsimp only [RS.sub, SF.sub, CF.sub, csub, Anc.sub, List.map, zCF, rHist, rTx, rOrd, rVer, rInt, rOp] at hS
  generalize Act.tau a 2 = v2 at hS
  generalize Act.tau a 4 = v4 at hS
  refine then_n (wp_seq (wp_seq ?_))
  refine region_q hS
    (cF rfl (oL true 2 101 .is) r1 r1
    (cF rfl (oP (rightH_c g hs) Tryz.func12 (Args.one (.pagg .t))) r1 trivial
    (cF rfl (o_not .t) r1 trivial
    Chain.nil)))
    hB ?_
  clear hS; intro a w F hS
  obtain ⟨F, hS⟩ := hS.nm [11, 5, 4, 2, 1] [102, 101, 0] rfl rfl
  try dsimp only [List.map, xD, xE, xT, xU, ldSF, rHist, rTx, rOrd, rVer, rInt, rOp] at hS
  refine then_n ?_
  refine cond_b hS rfl (fun hc0 => ?_) (fun hc0 => ?_)
  ·skip
   have hr : ¬ RightH g := by simpa using hc0
   have hg : deleteH g id = (zeroH, 5) := by unfold deleteH; rw [if_pos hr]
   refine wp_seq ?_
   refine region_q hS
     (cF rfl (oB [] [.slice none 0 0, .slice none 0 0] [(0, 1), (1, 1)] .nil) trivial trivial
     (cF rfl (oA 2 102 .is .t) r2 r1
     (cF rfl (oN (.ci (by kernel_rfl))) trivial trivial
     Chain.nil)))
     hB ?_
   clear hS; intro a w F hS
   obtain ⟨F, hS⟩ := hS.nm [5, 4, 2, 1] [102, 101, 0] rfl rfl
   try dsimp only [List.map, stCells, xL, xM, Nat.reduceAdd, xD, xE, xT, xU, xC, xN, zCF, rHist, rTx, rOrd, rVer, rInt, rOp] at hS
   refine then_n (wp_ret (then_r ?_))
   refine ret_P hfr hS rfl (.cell (n := 102) (ag := true) (sz := 2) rfl .is rfl (by kernel_rfl) (by kernel_rfl) (by kernel_rfl) (.tmp rfl .nil)) (.two (by rw [hg]; first | exact .aggU rfl rfl | exact .aggLe rfl ⟨PVLe.nilSl, PVLe.nilSl, trivial⟩) (.int (by rw [hg])))
  have hr : RightH g := by simpa using hc0
  have hrr := right_rise hr
  refine wp_skip (then_n (wp_seq ?_))
  refine region_q hS
    (cF rfl (oL true 2 101 .is) r1 r1
    (cF rfl (oM .t) r1 trivial
    (cF rfl (oP (place_c g id hs.1 hrr.1) Tryz.func69 (Args.two (.pagg .t) .t)) r2 trivial
    (cF rfl (oM .t) r1 trivial
    (cF rfl (o_extract .t rfl) r1 trivial
    (cF rfl (o_extract .t rfl) r1 trivial
    (cF rfl (oN .t) r1 trivial
    (cF rfl (oN .t) r1 trivial
    Chain.nil))))))))
    hB ?_
  clear hS; intro a w F hS
  obtain ⟨F, hS⟩ := hS.nm [7, 6, 5, 4, 2, 1] [102, 101, 0] rfl rfl
  try dsimp only [List.map, xD, xE, xT, xU, ldSF, rHist, rTx, rOrd, rVer, rInt, rOp] at hS
  refine then_n (wp_seq (wp_block (wp_seq ?_)))
  refine region_q hS
    (cF rfl (oM .t) r1 trivial
    (cF rfl (o_not .t) r1 trivial
    (cF rfl (oN .t) r1 trivial
    Chain.nil)))
    hB ?_
  clear hS; intro a w F hS
  obtain ⟨F, hS⟩ := hS.nm [19, 6, 5, 4, 2, 1] [102, 101, 0] rfl rfl
  try dsimp only [rHist, rTx, rOrd, rVer, rInt, rOp] at hS
  refine then_n ?_
  refine cond_b hS rfl (fun hc1 => ?_) (fun hc1 => ?_)
  ·skip
   have hik : isK TxD.id id g.txs = false := by simpa using hc1
   have hg : deleteH g id = (zeroH, 3) := by unfold deleteH; rw [if_neg (Decidable.not_not.2 hr), if_pos hik]
   refine wp_seq ?_
   refine region_q hS
     (cF rfl (oB [] [.slice none 0 0, .slice none 0 0] [(0, 1), (1, 1)] .nil) trivial trivial
     (cF rfl (oA 2 102 .is .t) r2 r1
     (cF rfl (oN (.ci (by kernel_rfl))) trivial trivial
     Chain.nil)))
     hB ?_
   clear hS; intro a w F hS
   obtain ⟨F, hS⟩ := hS.nm [6, 5, 4, 2, 1] [102, 101, 0] rfl rfl
   try dsimp only [List.map, stCells, xL, xM, Nat.reduceAdd, xD, xE, xT, xU, xC, xN, zCF, rHist, rTx, rOrd, rVer, rInt, rOp] at hS
   refine then_n (wp_ret (block_r (then_r ?_)))
   refine ret_P hfr hS rfl (.cell (n := 102) (ag := true) (sz := 2) rfl .is rfl (by kernel_rfl) (by kernel_rfl) (by kernel_rfl) (.tmp rfl .nil)) (.two (by rw [hg]; first | exact .aggU rfl rfl | exact .aggLe rfl ⟨PVLe.nilSl, PVLe.nilSl, trivial⟩) (.int (by rw [hg])))
  have hik : isK TxD.id id g.txs = true := by simpa using hc1
  have hlk := (isK_low hrr.1 hik).1
  refine wp_seq ?_
  refine region_q hS
    (cF rfl (oL true 2 101 .is) r1 r1
    (cF rfl (oM .t) r1 trivial
    (cF rfl (oB [(0, .tmp 25)] [.int .i64 0, .bool false, .slice none 0 0] [(0, 1), (1, 1), (2, 1)] (.one rfl .t one_int (by kernel_rfl) .nil)) r1 trivial
    (cF rfl (oP (used_c g (noneT id) hs.1 (by simp [noneT])) Tryz.func70 (Args.two (.pagg .t) (.conv (.pagg .t) (Ent.paggLe (l := [.int .i64 id, .bool false, .is (.slice none 0 0)]) (l' := [.int .i64 id, .bool false, .sl rOp []]) ⟨PVLe.refl, PVLe.refl, PVLe.nilSl, trivial⟩)))) r2 trivial
    (cF rfl (oN .t) r1 trivial
    Chain.nil)))))
    hB ?_
  clear hS; intro a w F hS
  obtain ⟨F, hS⟩ := hS.nm [23, 6, 5, 4, 2, 1] [102, 101, 0] rfl rfl
  try dsimp only [List.map, stCells, xL, xM, Nat.reduceAdd, xD, xE, xT, xU, xC, xN, zCF, ldSF, rHist, rTx, rOrd, rVer, rInt, rOp] at hS
  refine then_n ?_
  refine cond_b hS rfl (fun hc2 => ?_) (fun hc2 => ?_)
  ·skip
   have hg : deleteH g id = (zeroH, 7) := by unfold deleteH; rw [if_neg (Decidable.not_not.2 hr), if_neg (by rw [hik]; simp), if_pos (by simpa using hc2)]
   refine wp_seq ?_
   refine region_q hS
     (cF rfl (oB [] [.slice none 0 0, .slice none 0 0] [(0, 1), (1, 1)] .nil) trivial trivial
     (cF rfl (oA 2 102 .is .t) r2 r1
     (cF rfl (oN (.ci (by kernel_rfl))) trivial trivial
     Chain.nil)))
     hB ?_
   clear hS; intro a w F hS
   obtain ⟨F, hS⟩ := hS.nm [6, 5, 4, 2, 1] [102, 101, 0] rfl rfl
   try dsimp only [List.map, stCells, xL, xM, Nat.reduceAdd, xD, xE, xT, xU, xC, xN, zCF, rHist, rTx, rOrd, rVer, rInt, rOp] at hS
   refine then_n (wp_ret (block_r (then_r ?_)))
   refine ret_P hfr hS rfl (.cell (n := 102) (ag := true) (sz := 2) rfl .is rfl (by kernel_rfl) (by kernel_rfl) (by kernel_rfl) (.tmp rfl .nil)) (.two (by rw [hg]; first | exact .aggU rfl rfl | exact .aggLe rfl ⟨PVLe.nilSl, PVLe.nilSl, trivial⟩) (.int (by rw [hg])))
  have hg : deleteH g id = (⟨g.txs.take (lowK TxD.id id g.txs) ++ g.txs.drop (lowK TxD.id id g.txs + 1), settleO (noneT id) g.orders⟩, 0) := by unfold deleteH; rw [if_neg (Decidable.not_not.2 hr), if_neg (by rw [hik]; simp), if_neg (by simpa using hc2)]
  refine wp_skip (block_n (then_n (wp_seq ?_)))
  replace hS := hS.fresh 103 rfl
  refine region_q hS
    (cF rfl (oL true 2 101 .is) r1 r1
    (cF rfl (o_callFA 103 (clone_c g hs) Tryz.func66 rfl (by kernel_rfl) (Args.one (.pagg .t))) r1 r1
    (cF rfl (oH [.slice none 0 0, .slice none 0 0] 104) trivial trivial
    (cF rfl (oA 2 104 .same (.conv .t (Ent.fnAgg (.fn (.fn .nil))))) r2 r1
    Chain.nil))))
    hB ?_
  clear hS; intro a w F hS
  replace hS := hS.sub
  obtain ⟨F, hS⟩ := hS.nm [8, 6, 5, 4, 1] [104, 103, 102, 101, 0] rfl rfl
  try dsimp only [RS.sub, SF.sub, CF.sub, csub, Anc.sub, List.map, stCells, xL, xM, Nat.reduceAdd, xD, xE, xT, xU, xC, xN, zCF, ldSF, rHist, rTx, rOrd, rVer, rInt, rOp] at hS
  generalize Act.tau a 8 = v8 at hS
  generalize Act.tau a 30 = v30 at hS
  replace hS := hS.turn 103 rfl (r' := RS.hp (HP.star [.ob (.val (cellN 0 v30)) (rowH 32 3 rTx g.txs), .ob (.val (cellN 1 v30)) (rowH 46 2 rOrd g.orders)])) (fun _ _ _ _ h => h)
  obtain ⟨F, hS⟩ := hS.peel 103 70 rfl rfl
  obtain ⟨F, hS⟩ := hS.peel 103 71 rfl rfl
  obtain ⟨F, hS⟩ := hS.nm [8, 6, 5, 4, 1] [104, 102, 101, 71, 70, 0] rfl rfl
  generalize cellN 0 v30 = va at hS
  generalize cellN 1 v30 = vb at hS
  refine then_n (wp_seq ?_)
  refine region_q hS
    (cF rfl (oF 0 104 .is) r1 r1
    (cF rfl (oL false 1 104 .adr) r1 r1
    (cF rfl (oM .t) r1 trivial
    (cF rfl (oM .t) r1 trivial
    (cF rfl (o_add .t (.ci (by kernel_rfl))) r1 trivial
    (cF rfl (o_callRowN 70 (delT_c va g.txs (lowK TxD.id id g.txs) (by omega) hlk) Tryz.func71 rfl (by kernel_rfl) (Args.three .t .t (.conv .t (.int (wrap_succ (by omega))))) pvOne1) r3 r1
    (cF rfl (oF 0 104 .is) r1 r1
    (cF rfl (o_storeS 104 .adr (by kernel_rfl) (by kernel_rfl)) r2 r1
    Chain.nil))))))))
    hB ?_
  clear hS; intro a w F hS
  replace hS := hS.sub
  obtain ⟨F, hS⟩ := hS.nm [8, 5, 4, 1] [104, 102, 101, 71, 70, 0] rfl rfl
  try dsimp only [RS.sub, SF.sub, CF.sub, csub, Anc.sub, List.map, stCells, xL, xM, Nat.reduceAdd, xD, xE, xT, xU, xC, xN, zCF, ldSF, rHist, rTx, rOrd, rVer, rInt, rOp] at hS
  generalize Act.tau a 36 = v36 at hS
  refine then_n (wp_seq ?_)
  replace hS := hS.fresh 72 rfl
  obtain ⟨F, hS⟩ := hS.push 72 71 rfl rfl rfl rfl
  obtain ⟨F, hS⟩ := hS.push 72 104 rfl rfl rfl rfl
  replace hS := hS.turn 72 rfl (r' := RS.hp (bookH 25 46 v8 v36 g.orders)) (fun _ _ _ _ h => ⟨vb, h⟩)
  obtain ⟨F, hS⟩ := hS.nm [8, 5, 4, 1] [102, 101, 72, 70, 0] rfl rfl
  refine region_q hS
    (cF rfl (oM .t) r1 trivial
    (cF rfl (oB [(0, .tmp 38)] [.int .i64 0, .bool false, .slice none 0 0] [(0, 1), (1, 1), (2, 1)] (.one rfl .t one_int (by kernel_rfl) .nil)) r1 trivial
    (cF rfl (o_callG1 72 (settle_c v8 v36 g.orders (noneT id) hs.2 hrr.2 (by simp [noneT])) Tryz.func68 rfl (by kernel_rfl) (Args.two .t (.conv (.pagg .t) (Ent.paggLe (l := [.int .i64 id, .bool false, .is (.slice none 0 0)]) (l' := [.int .i64 id, .bool false, .sl rOp []]) ⟨PVLe.refl, PVLe.refl, PVLe.nilSl, trivial⟩)))) r2 r1
    Chain.nil)))
    hB ?_
  clear hS; intro a w F hS
  obtain ⟨F, hS⟩ := hS.nm [8, 5, 4] [102, 101, 72, 70, 0] rfl rfl
  try dsimp only [List.map, stCells, xL, xM, Nat.reduceAdd, xD, xE, xT, xU, xC, xN, zCF, rHist, rTx, rOrd, rVer, rInt, rOp] at hS
  replace hS := hS.turn 72 rfl (r' := RS.hp (HP.ex fun vb : Value => HP.star [.pt (.val v8) 25 [.pv (.is v36), .pv (.is vb)], .ob (.val vb) (rowH 46 2 rOrd (settleO (noneT id) g.orders))])) (fun _ _ _ _ h => h)
  obtain ⟨vb2, hS⟩ := hS.open_ex 72 rfl
  obtain ⟨F, hS⟩ := hS.peel 72 73 rfl rfl
  obtain ⟨F, hS⟩ := hS.peel 72 74 rfl rfl
  obtain ⟨F, hS⟩ := hS.nm [8, 5, 4] [102, 101, 74, 73, 70, 0] rfl rfl
  obtain ⟨F, hS⟩ := hS.giveCell 70 73 0 rfl rfl rfl rfl rfl
  try dsimp only [List.set] at hS
  obtain ⟨F, hS⟩ := hS.nm [8, 5, 4] [102, 101, 74, 73, 0] rfl rfl
  obtain ⟨F, hS⟩ := hS.giveCell 74 73 1 rfl rfl rfl rfl rfl
  try dsimp only [List.set] at hS
  obtain ⟨F, hS⟩ := hS.nm [8, 5, 4] [102, 101, 73, 0] rfl rfl
  refine then_n (wp_seq ?_)
  refine region_q hS
    (cF rfl (oL true 2 73 .is) r1 r1
    (cF rfl (oA 2 102 .is .t) r2 r1
    (cF rfl (oN (.ci (by kernel_rfl))) trivial trivial
    Chain.nil)))
    hB ?_
  clear hS; intro a w F hS
  obtain ⟨F, hS⟩ := hS.nm [5, 4] [102, 101, 73, 0] rfl rfl
  try dsimp only [List.map, stCells, xL, xM, Nat.reduceAdd, xD, xE, xT, xU, xC, xN, zCF, ldSF, rHist, rTx, rOrd, rVer, rInt, rOp] at hS
  refine then_n (wp_ret ?_)
  refine ret_P hfr hS rfl (.cell (n := 102) (ag := true) (sz := 2) rfl .is rfl (by kernel_rfl) (by kernel_rfl) (by kernel_rfl) (.tmp rfl .nil)) (.two (by rw [hg]; first | exact .aggU rfl rfl | exact .aggLe rfl ⟨PVLe.nilSl, PVLe.nilSl, trivial⟩) (.int (by rw [hg])))

theorem hAmend_c (g : HistD) (t : TxD) (hs : Small g) (ht : t.ops.length ≤ 1000) : FnP Tryz.prog 31 [.agg (rHist g), .agg (rTx t)] (.tup [.agg (rHist (amendH g t).1), .int .i64 (amendH g t).2]) := by
  refine FnP.mk Tryz.func31 rfl Tryz.ntmps31 rfl ?_
  intro B a w F hB hfr hS
  have hsl := hs.1.1
  refine wp_seq ?_
  refine region_q hS
    (cF rfl (oX 101 (.conv .t .agg)) r1 trivial
    (cF rfl (oX 102 (.conv .t .agg)) r1 trivial
    (cF rfl (oH [.slice none 0 0, .slice none 0 0] 103) trivial trivial
    (cF rfl (oN (.ci (by kernel_rfl))) trivial trivial
    Chain.nil))))
    hB ?_
  clear hS; intro a w F hS
  replace hS := hS.sub
  obtain ⟨F, hS⟩ := hS.nm [5, 4, 3, 2] [103, 102, 101, 0] rfl rfl
  try dsimp only [RS.sub, SF.sub, CF.sub, csub, Anc.sub, List.map, zCF, rHist, rTx, rOrd, rVer, rInt, rOp] at hS
  generalize Act.tau a 2 = v2 at hS
  generalize Act.tau a 3 = v3 at hS
  generalize Act.tau a 4 = v4 at hS
  refine then_n (wp_seq ?_)
  refine region_q hS
    (cF rfl (oL true 2 101 .is) r1 r1
    (cF rfl (oL true 3 102 .is) r1 r1
    (cF rfl (oP (may_c g t 3 true hs ht) Tryz.func65 (Args.four (.pagg .t) (.pagg .t) (.ci (by kernel_rfl)) .cb)) r2 trivial
    (cF rfl (oM .t) r1 trivial
    (cF rfl (o_extract .t rfl) r1 trivial
    (cF rfl (o_extract .t rfl) r1 trivial
    (cF rfl (oN .t) r1 trivial
    (cF rfl (oN .t) r1 trivial
    Chain.nil))))))))
    hB ?_
  clear hS; intro a w F hS
  obtain ⟨F, hS⟩ := hS.nm [7, 6, 5, 4, 3, 2] [103, 102, 101, 0] rfl rfl
  try dsimp only [List.map, xD, xE, xT, xU, ldSF, rHist, rTx, rOrd, rVer, rInt, rOp] at hS
  refine then_n (wp_seq (wp_block (wp_seq ?_)))
  refine region_q hS
    (cF rfl (oM .t) r1 trivial
    (cF rfl (o_neq .t (.ci (by kernel_rfl))) r1 trivial
    (cF rfl (oN .t) r1 trivial
    Chain.nil)))
    hB ?_
  clear hS; intro a w F hS
  obtain ⟨F, hS⟩ := hS.nm [15, 7, 6, 5, 4, 3, 2] [103, 102, 101, 0] rfl rfl
  try dsimp only [rHist, rTx, rOrd, rVer, rInt, rOp] at hS
  refine then_n ?_
  refine cond_b hS rfl (fun hc0 => ?_) (fun hc0 => ?_)
  ·skip
   have hm : (mayH g t 3 true).2 ≠ 0 := by simpa using hc0
   have hg : amendH g t = (zeroH, (mayH g t 3 true).2) := by unfold amendH; rw [if_pos hm]
   refine wp_seq ?_
   refine region_q hS
     (cF rfl (oB [] [.slice none 0 0, .slice none 0 0] [(0, 1), (1, 1)] .nil) trivial trivial
     (cF rfl (oM .t) r1 trivial
     (cF rfl (oA 2 103 .is .t) r2 r1
     (cF rfl (oN .t) r1 trivial
     Chain.nil))))
     hB ?_
   clear hS; intro a w F hS
   obtain ⟨F, hS⟩ := hS.nm [6, 5, 4, 3, 2] [103, 102, 101, 0] rfl rfl
   try dsimp only [List.map, stCells, xL, xM, Nat.reduceAdd, xD, xE, xT, xU, xC, xN, zCF, rHist, rTx, rOrd, rVer, rInt, rOp] at hS
   refine then_n (wp_ret (block_r (then_r ?_)))
   refine ret_P hfr hS rfl (.cell (n := 103) (ag := true) (sz := 2) rfl .is rfl (by kernel_rfl) (by kernel_rfl) (by kernel_rfl) (.tmp rfl .nil)) (.two (by rw [hg]; first | exact .aggU rfl rfl | exact .aggLe rfl ⟨PVLe.nilSl, PVLe.nilSl, trivial⟩) (.int (by rw [hg])))
  have hm : ¬ (mayH g t 3 true).2 ≠ 0 := by simpa using hc0
  obtain ⟨hr, hrt, hik, hnd, hlo⟩ := may_ok (by decide) (Decidable.not_not.1 hm)
  have hrr := right_rise hr
  have hlk := lowK_le (κ := TxD.id) (k := t.id) g.txs
  refine wp_seq ?_
  refine region_q hS
    (cF rfl (oL true 2 101 .is) r1 r1
    (cF rfl (oL true 3 102 .is) r1 r1
    (cF rfl (oP (used_c g t hs.1 ht) Tryz.func70 (Args.two (.pagg .t) (.pagg .t))) r2 trivial
    (cF rfl (oN .t) r1 trivial
    Chain.nil))))
    hB ?_
  clear hS; intro a w F hS
  obtain ⟨F, hS⟩ := hS.nm [20, 6, 5, 4, 3, 2] [103, 102, 101, 0] rfl rfl
  try dsimp only [List.map, xD, xE, xT, xU, ldSF, rHist, rTx, rOrd, rVer, rInt, rOp] at hS
  refine then_n ?_
  refine cond_b hS rfl (fun hc1 => ?_) (fun hc1 => ?_)
  ·skip
   have hg : amendH g t = (zeroH, 7) := by unfold amendH; rw [if_neg hm, if_pos (by simpa using hc1)]
   refine wp_seq ?_
   refine region_q hS
     (cF rfl (oB [] [.slice none 0 0, .slice none 0 0] [(0, 1), (1, 1)] .nil) trivial trivial
     (cF rfl (oA 2 103 .is .t) r2 r1
     (cF rfl (oN (.ci (by kernel_rfl))) trivial trivial
     Chain.nil)))
     hB ?_
   clear hS; intro a w F hS
   obtain ⟨F, hS⟩ := hS.nm [6, 5, 4, 3, 2] [103, 102, 101, 0] rfl rfl
   try dsimp only [List.map, stCells, xL, xM, Nat.reduceAdd, xD, xE, xT, xU, xC, xN, zCF, rHist, rTx, rOrd, rVer, rInt, rOp] at hS
   refine then_n (wp_ret (block_r (then_r ?_)))
   refine ret_P hfr hS rfl (.cell (n := 103) (ag := true) (sz := 2) rfl .is rfl (by kernel_rfl) (by kernel_rfl) (by kernel_rfl) (.tmp rfl .nil)) (.two (by rw [hg]; first | exact .aggU rfl rfl | exact .aggLe rfl ⟨PVLe.nilSl, PVLe.nilSl, trivial⟩) (.int (by rw [hg])))
  have hlt := (isK_low hrr.1 hik).1
  have hg : amendH g t = (⟨g.txs.set (((mayH g t 3 true).1).toNat) t, settleO t g.orders⟩, 0) := by unfold amendH; rw [if_neg hm, if_neg (by simpa using hc1), hlo, Int.toNat_natCast]
  refine wp_skip (block_n (then_n (wp_seq ?_)))
  replace hS := hS.fresh 104 rfl
  refine region_q hS
    (cF rfl (oL true 2 101 .is) r1 r1
    (cF rfl (o_callFA 104 (clone_c g hs) Tryz.func66 rfl (by kernel_rfl) (Args.one (.pagg .t))) r1 r1
    (cF rfl (oH [.slice none 0 0, .slice none 0 0] 105) trivial trivial
    (cF rfl (oA 2 105 .same (.conv .t (Ent.fnAgg (.fn (.fn .nil))))) r2 r1
    Chain.nil))))
    hB ?_
  clear hS; intro a w F hS
  replace hS := hS.sub
  obtain ⟨F, hS⟩ := hS.nm [8, 6, 5, 4, 3] [105, 104, 103, 102, 101, 0] rfl rfl
  try dsimp only [RS.sub, SF.sub, CF.sub, csub, Anc.sub, List.map, stCells, xL, xM, Nat.reduceAdd, xD, xE, xT, xU, xC, xN, zCF, ldSF, rHist, rTx, rOrd, rVer, rInt, rOp] at hS
  generalize Act.tau a 8 = v8 at hS
  generalize Act.tau a 26 = v26 at hS
  replace hS := hS.turn 104 rfl (r' := RS.hp (HP.star [.ob (.val (cellN 0 v26)) (rowH 32 3 rTx g.txs), .ob (.val (cellN 1 v26)) (rowH 46 2 rOrd g.orders)])) (fun _ _ _ _ h => h)
  obtain ⟨F, hS⟩ := hS.peel 104 70 rfl rfl
  obtain ⟨F, hS⟩ := hS.peel 104 71 rfl rfl
  obtain ⟨F, hS⟩ := hS.nm [8, 6, 5, 4, 3] [105, 103, 102, 101, 71, 70, 0] rfl rfl
  generalize cellN 0 v26 = va at hS
  generalize cellN 1 v26 = vb at hS
  refine then_n (wp_seq ?_)
  refine region_any (by kernel_rfl) hS (by kernel_rfl)
    (cF rfl (oF 0 105 .is) r1 r1
    (cF rfl (oL false 1 105 .adr) r1 r1
    (cF rfl (oM .t) r1 trivial
    (cF rfl (oL true 3 102 .is) r1 r1
    (cF rfl (oP (copied_c t (by omega)) Tryz.func34 (Args.one (.pagg .t))) r1 trivial
    (cF rfl (o_indexAddr_row (sz := 3) 70 (.mk Tryz.underlying22 (by kernel_rfl)) .is .t (by rw [hlo]; omega) (by rw [hlo]; omega) (by rfl)) r2 r1
    (cF rfl (o_store_row (sz := 3) 70 .t (by intro x; rfl) (by rw [hlo]; omega) .t (by kernel_rfl)) r2 r1
    Chain.nil)))))))
    (by kernel_rfl) (by rw [hB]; kernel_rfl) ?_
  clear hS; intro a w F hS
  obtain ⟨F, hS⟩ := hS.nm [8, 5, 4, 3] [105, 103, 102, 101, 71, 70, 0] rfl rfl
  try dsimp only [List.map, stCells, xL, xM, Nat.reduceAdd, xD, xE, xT, xU, xC, xN, zCF, ldSF, rHist, rTx, rOrd, rVer, rInt, rOp] at hS
  try simp only [Int.toNat_natCast] at hS
  refine then_n (wp_seq ?_)
  replace hS := hS.fresh 72 rfl
  obtain ⟨F, hS⟩ := hS.push 72 71 rfl rfl rfl rfl
  obtain ⟨F, hS⟩ := hS.push 72 105 rfl rfl rfl rfl
  replace hS := hS.turn 72 rfl (r' := RS.hp (bookH 25 46 v8 va g.orders)) (fun _ _ _ _ h => ⟨vb, h⟩)
  obtain ⟨F, hS⟩ := hS.nm [8, 5, 4, 3] [103, 102, 101, 72, 70, 0] rfl rfl
  refine region_q hS
    (cF rfl (oL true 3 102 .is) r1 r1
    (cF rfl (o_callG1 72 (settle_c v8 va g.orders t hs.2 hrr.2 ht) Tryz.func68 rfl (by kernel_rfl) (Args.two .t (.pagg .t))) r2 r1
    Chain.nil))
    hB ?_
  clear hS; intro a w F hS
  obtain ⟨F, hS⟩ := hS.nm [8, 5, 4] [103, 102, 101, 72, 70, 0] rfl rfl
  try dsimp only [List.map, xD, xE, xT, xU, ldSF, rHist, rTx, rOrd, rVer, rInt, rOp] at hS
  replace hS := hS.turn 72 rfl (r' := RS.hp (HP.ex fun vb : Value => HP.star [.pt (.val v8) 25 [.pv (.is va), .pv (.is vb)], .ob (.val vb) (rowH 46 2 rOrd (settleO t g.orders))])) (fun _ _ _ _ h => h)
  obtain ⟨vb2, hS⟩ := hS.open_ex 72 rfl
  obtain ⟨F, hS⟩ := hS.peel 72 73 rfl rfl
  obtain ⟨F, hS⟩ := hS.peel 72 74 rfl rfl
  obtain ⟨F, hS⟩ := hS.nm [8, 5, 4] [103, 102, 101, 74, 73, 70, 0] rfl rfl
  obtain ⟨F, hS⟩ := hS.giveCell 70 73 0 rfl rfl rfl rfl rfl
  try dsimp only [List.set] at hS
  obtain ⟨F, hS⟩ := hS.nm [8, 5, 4] [103, 102, 101, 74, 73, 0] rfl rfl
  obtain ⟨F, hS⟩ := hS.giveCell 74 73 1 rfl rfl rfl rfl rfl
  try dsimp only [List.set] at hS
  obtain ⟨F, hS⟩ := hS.nm [8, 5, 4] [103, 102, 101, 73, 0] rfl rfl
  refine then_n (wp_seq ?_)
  refine region_q hS
    (cF rfl (oL true 2 73 .is) r1 r1
    (cF rfl (oA 2 103 .is .t) r2 r1
    (cF rfl (oN (.ci (by kernel_rfl))) trivial trivial
    Chain.nil)))
    hB ?_
  clear hS; intro a w F hS
  obtain ⟨F, hS⟩ := hS.nm [5, 4] [103, 102, 101, 73, 0] rfl rfl
  try dsimp only [List.map, stCells, xL, xM, Nat.reduceAdd, xD, xE, xT, xU, xC, xN, zCF, ldSF, rHist, rTx, rOrd, rVer, rInt, rOp] at hS
  refine then_n (wp_ret ?_)
  refine ret_P hfr hS rfl (.cell (n := 103) (ag := true) (sz := 2) rfl .is rfl (by kernel_rfl) (by kernel_rfl) (by kernel_rfl) (.tmp rfl .nil)) (.two (by rw [hg]; first | exact .aggU rfl rfl | exact .aggLe rfl ⟨PVLe.nilSl, PVLe.nilSl, trivial⟩) (.int (by rw [hg])))

end Go.Proofs.YtpjjmolibanakaaGreat
namespace Go.Proofs.YtpjjmolibanakaaGreat
open Go Go.Gm
set_option linter.unusedVariables false
set_option linter.unusedSimpArgs false
set_option maxHeartbeats 4000000
set_option maxRecDepth 8000


def turnedH (g : HistD) (key : Int) (rule : List Int → List Int × Int) : HistD × Int := if ¬ RightH g then (zeroH, 5) else if isK OrdD.key key g.orders = false then (zeroH, 3) else if (rule (Go.Gm.nth g.orders (lowK OrdD.key key g.orders)).txs).2 ≠ 0 then (zeroH, (rule (Go.Gm.nth g.orders (lowK OrdD.key key g.orders)).txs).2) else (⟨g.txs, g.orders.set (lowK OrdD.key key g.orders) ⟨(Go.Gm.nth g.orders (lowK OrdD.key key g.orders)).key, (rule (Go.Gm.nth g.orders (lowK OrdD.key key g.orders)).txs).1⟩⟩, 0)
def ruleR (o : OrdD) (l : List Int) : List Int × Int := if l.Perm o.txs then (o.txs, 0) else ([], 8)
def reorderH (g : HistD) (o : OrdD) : HistD × Int := turnedH g o.key (ruleR o)
def moveH (g : HistD) (key id place : Int) : HistD × Int := turnedH g key fun l => moveO l id place

theorem turned_c (g : HistD) (key : Int) (rule : List Int → List Int × Int) (f : FuncId) (fn : Func) (cps : List PV) (hf : Tryz.prog.funcs[f]? = some fn) (hb : fn.body.isSome = true) (hnn : (fn.name == "runtime.NumGoroutine") = false) (hw : ∀ l : List Int, l.length ≤ 1000 → FnP Tryz.prog f (.sl rInt l :: cps) (.tup [.sl rInt (rule l).1, .int .i64 (rule l).2])) (hs : Small g) : FnP Tryz.prog 72 [.agg (rHist g), .int .i64 key, .clos f cps] (.tup [.agg (rHist (turnedH g key rule).1), .int .i64 (turnedH g key rule).2]) := by
  refine FnP.mk Tryz.func72 rfl Tryz.ntmps72 rfl ?_
  intro B a w F hB hfr hS
  have hso := hs.2.1
  refine wp_seq ?_
  refine region_q hS
    (cF rfl (oX 101 (.conv .t .agg)) r1 trivial
    (cF rfl (oH [.slice none 0 0, .slice none 0 0] 102) trivial trivial
    (cF rfl (oN (.ci (by kernel_rfl))) trivial trivial
    Chain.nil)))
    hB ?_
  clear hS; intro a w F hS
  replace hS := hS.sub
  obtain ⟨F, hS⟩ := hS.nm [7, 6, 3, 2, 1] [102, 101, 0] rfl rfl
  try dsimp only [RS.sub, SF.sub, CF.sub, csub, Anc.sub, List.map, zCF, rHist, rTx, rOrd, rVer, rInt, rOp] at hS
  generalize Act.tau a 3 = v3 at hS
  generalize Act.tau a 6 = v6 at hS
  refine then_n (wp_seq (wp_seq ?_))
  refine region_q hS
    (cF rfl (oL true 2 101 .is) r1 r1
    (cF rfl (oP (rightH_c g hs) Tryz.func12 (Args.one (.pagg .t))) r1 trivial
    (cF rfl (o_not .t) r1 trivial
    Chain.nil)))
    hB ?_
  clear hS; intro a w F hS
  obtain ⟨F, hS⟩ := hS.nm [15, 7, 6, 3, 2, 1] [102, 101, 0] rfl rfl
  try dsimp only [List.map, xD, xE, xT, xU, ldSF, rHist, rTx, rOrd, rVer, rInt, rOp] at hS
  refine then_n ?_
  refine cond_b hS rfl (fun hc0 => ?_) (fun hc0 => ?_)
  ·skip
   have hr : ¬ RightH g := by simpa using hc0
   have hg : turnedH g key rule = (zeroH, 5) := by unfold turnedH; rw [if_pos hr]
   refine wp_seq ?_
   refine region_q hS
     (cF rfl (oB [] [.slice none 0 0, .slice none 0 0] [(0, 1), (1, 1)] .nil) trivial trivial
     (cF rfl (oA 2 102 .is .t) r2 r1
     (cF rfl (oN (.ci (by kernel_rfl))) trivial trivial
     Chain.nil)))
     hB ?_
   clear hS; intro a w F hS
   obtain ⟨F, hS⟩ := hS.nm [7, 6, 3, 2, 1] [102, 101, 0] rfl rfl
   try dsimp only [List.map, stCells, xL, xM, Nat.reduceAdd, xD, xE, xT, xU, xC, xN, zCF, rHist, rTx, rOrd, rVer, rInt, rOp] at hS
   refine then_n (wp_ret (then_r ?_))
   refine ret_P hfr hS rfl (.cell (n := 102) (ag := true) (sz := 2) rfl .is rfl (by kernel_rfl) (by kernel_rfl) (by kernel_rfl) (.tmp rfl .nil)) (.two (by rw [hg]; first | exact .aggU rfl rfl | exact .aggLe rfl ⟨PVLe.nilSl, PVLe.nilSl, trivial⟩) (.int (by rw [hg])))
  have hr : RightH g := by simpa using hc0
  have hrr := right_rise hr
  refine wp_skip (then_n (wp_seq ?_))
  refine region_q hS
    (cF rfl (oF 1 101 .is) r1 r1
    (cF rfl (oL false 1 101 .adr) r1 r1
    (cF rfl (oM .t) r1 trivial
    (cF rfl (oP (bsR_c g.orders key (by omega) hrr.2 99 Tryz.f99 [] Tryz.func99 rfl (by kernel_rfl) (fun x => byKey_c x key)) Tryz.func98 (Args.three .t .t (.conv .f (Ent.fnClos)))) r2 trivial
    (cF rfl (oM .t) r1 trivial
    (cF rfl (o_extract .t rfl) r1 trivial
    (cF rfl (o_extract .t rfl) r1 trivial
    (cF rfl (oN .t) r1 trivial
    (cF rfl (oN .t) r1 trivial
    Chain.nil)))))))))
    hB ?_
  clear hS; intro a w F hS
  obtain ⟨F, hS⟩ := hS.nm [9, 8, 7, 6, 3, 2] [102, 101, 0] rfl rfl
  try dsimp only [List.map, xD, xE, xT, xU, ldSF, rHist, rTx, rOrd, rVer, rInt, rOp] at hS
  refine then_n (wp_seq (wp_seq ?_))
  refine region_q hS
    (cF rfl (oM .t) r1 trivial
    (cF rfl (o_not .t) r1 trivial
    Chain.nil))
    hB ?_
  clear hS; intro a w F hS
  obtain ⟨F, hS⟩ := hS.nm [25, 8, 7, 6, 3, 2] [102, 101, 0] rfl rfl
  try dsimp only [rHist, rTx, rOrd, rVer, rInt, rOp] at hS
  refine then_n ?_
  refine cond_b hS rfl (fun hc1 => ?_) (fun hc1 => ?_)
  ·skip
   have hik : isK OrdD.key key g.orders = false := by simpa using hc1
   have hg : turnedH g key rule = (zeroH, 3) := by unfold turnedH; rw [if_neg (Decidable.not_not.2 hr), if_pos hik]
   refine wp_seq ?_
   refine region_q hS
     (cF rfl (oB [] [.slice none 0 0, .slice none 0 0] [(0, 1), (1, 1)] .nil) trivial trivial
     (cF rfl (oA 2 102 .is .t) r2 r1
     (cF rfl (oN (.ci (by kernel_rfl))) trivial trivial
     Chain.nil)))
     hB ?_
   clear hS; intro a w F hS
   obtain ⟨F, hS⟩ := hS.nm [8, 7, 6, 3, 2] [102, 101, 0] rfl rfl
   try dsimp only [List.map, stCells, xL, xM, Nat.reduceAdd, xD, xE, xT, xU, xC, xN, zCF, rHist, rTx, rOrd, rVer, rInt, rOp] at hS
   refine then_n (wp_ret (then_r ?_))
   refine ret_P hfr hS rfl (.cell (n := 102) (ag := true) (sz := 2) rfl .is rfl (by kernel_rfl) (by kernel_rfl) (by kernel_rfl) (.tmp rfl .nil)) (.two (by rw [hg]; first | exact .aggU rfl rfl | exact .aggLe rfl ⟨PVLe.nilSl, PVLe.nilSl, trivial⟩) (.int (by rw [hg])))
  have hik : isK OrdD.key key g.orders = true := by simpa using hc1
  have hlk := (isK_low hrr.2 hik).1
  have hnl : (Go.Gm.nth g.orders (lowK OrdD.key key g.orders)).txs.length ≤ 1000 := hs.2.at hlk
  refine wp_skip (then_n (wp_seq ?_))
  refine region_q hS
    (cF rfl (oM .t) r1 trivial
    (cF rfl (oF 1 101 .is) r1 r1
    (cF rfl (oL false 1 101 .adr) r1 r1
    (cF rfl (oM .t) r1 trivial
    (cF rfl (o_indexAddr_sl (sz := 2) (.mk Tryz.underlying23 (by kernel_rfl)) (by intro x; rfl) .t .t (by omega) (by omega)) r2 trivial
    (cF rfl (oG 1 .t) r1 trivial
    (cF rfl (oR false 1 .t) r1 trivial
    (cF rfl (o_callClosP (avs := [.sl rInt (Go.Gm.nth g.orders (lowK OrdD.key key g.orders)).txs]) .t (hw (Go.Gm.nth g.orders (lowK OrdD.key key g.orders)).txs hnl) hf hb hnn (Args.one .t)) r2 trivial
    (cF rfl (oM .t) r1 trivial
    (cF rfl (o_extract .t rfl) r1 trivial
    (cF rfl (o_extract .t rfl) r1 trivial
    (cF rfl (oN .t) r1 trivial
    (cF rfl (oN .t) r1 trivial
    Chain.nil)))))))))))))
    hB ?_
  clear hS; intro a w F hS
  obtain ⟨F, hS⟩ := hS.nm [11, 10, 8, 7, 6, 3] [102, 101, 0] rfl rfl
  try dsimp only [List.map, xD, xE, xT, xU, ldSF, rHist, rTx, rOrd, rVer, rInt, rOp] at hS
  try simp only [Int.toNat_natCast] at hS
  refine then_n (wp_seq (wp_seq ?_))
  refine region_q hS
    (cF rfl (oM .t) r1 trivial
    (cF rfl (o_neq .t (.ci (by kernel_rfl))) r1 trivial
    Chain.nil))
    hB ?_
  clear hS; intro a w F hS
  obtain ⟨F, hS⟩ := hS.nm [39, 11, 10, 8, 7, 6, 3] [102, 101, 0] rfl rfl
  try dsimp only [rHist, rTx, rOrd, rVer, rInt, rOp] at hS
  refine then_n ?_
  refine cond_b hS rfl (fun hc2 => ?_) (fun hc2 => ?_)
  ·skip
   have hrl : (rule (Go.Gm.nth g.orders (lowK OrdD.key key g.orders)).txs).2 ≠ 0 := by simpa using hc2
   have hg : turnedH g key rule = (zeroH, (rule (Go.Gm.nth g.orders (lowK OrdD.key key g.orders)).txs).2) := by unfold turnedH; rw [if_neg (Decidable.not_not.2 hr), if_neg (by rw [hik]; simp), if_pos hrl]
   refine wp_seq ?_
   refine region_q hS
     (cF rfl (oB [] [.slice none 0 0, .slice none 0 0] [(0, 1), (1, 1)] .nil) trivial trivial
     (cF rfl (oM .t) r1 trivial
     (cF rfl (oA 2 102 .is .t) r2 r1
     (cF rfl (oN .t) r1 trivial
     Chain.nil))))
     hB ?_
   clear hS; intro a w F hS
   obtain ⟨F, hS⟩ := hS.nm [10, 8, 7, 6, 3] [102, 101, 0] rfl rfl
   try dsimp only [List.map, stCells, xL, xM, Nat.reduceAdd, xD, xE, xT, xU, xC, xN, zCF, rHist, rTx, rOrd, rVer, rInt, rOp] at hS
   refine then_n (wp_ret (then_r ?_))
   refine ret_P hfr hS rfl (.cell (n := 102) (ag := true) (sz := 2) rfl .is rfl (by kernel_rfl) (by kernel_rfl) (by kernel_rfl) (.tmp rfl .nil)) (.two (by rw [hg]; first | exact .aggU rfl rfl | exact .aggLe rfl ⟨PVLe.nilSl, PVLe.nilSl, trivial⟩) (.int (by rw [hg])))
  have hg : turnedH g key rule = (⟨g.txs, g.orders.set (lowK OrdD.key key g.orders) (⟨(Go.Gm.nth g.orders (lowK OrdD.key key g.orders)).key, (rule (Go.Gm.nth g.orders (lowK OrdD.key key g.orders)).txs).1⟩ : OrdD)⟩, 0) := by unfold turnedH; rw [if_neg (Decidable.not_not.2 hr), if_neg (by rw [hik]; simp), if_neg (by simpa using hc2)]
  refine wp_skip (then_n (wp_seq ?_))
  replace hS := hS.fresh 103 rfl
  refine region_q hS
    (cF rfl (oL true 2 101 .is) r1 r1
    (cF rfl (o_callFA 103 (clone_c g hs) Tryz.func66 rfl (by kernel_rfl) (Args.one (.pagg .t))) r1 r1
    (cF rfl (oH [.slice none 0 0, .slice none 0 0] 104) trivial trivial
    (cF rfl (oA 2 104 .same (.conv .t (Ent.fnAgg (.fn (.fn .nil))))) r2 r1
    Chain.nil))))
    hB ?_
  clear hS; intro a w F hS
  replace hS := hS.sub
  obtain ⟨F, hS⟩ := hS.nm [12, 10, 8, 7, 6] [104, 103, 102, 101, 0] rfl rfl
  try dsimp only [RS.sub, SF.sub, CF.sub, csub, Anc.sub, List.map, stCells, xL, xM, Nat.reduceAdd, xD, xE, xT, xU, xC, xN, zCF, ldSF, rHist, rTx, rOrd, rVer, rInt, rOp] at hS
  generalize Act.tau a 12 = v12 at hS
  generalize Act.tau a 43 = v43 at hS
  replace hS := hS.turn 103 rfl (r' := RS.hp (HP.star [.ob (.val (cellN 0 v43)) (rowH 32 3 rTx g.txs), .ob (.val (cellN 1 v43)) (rowH 46 2 rOrd g.orders)])) (fun _ _ _ _ h => h)
  obtain ⟨F, hS⟩ := hS.peel 103 70 rfl rfl
  obtain ⟨F, hS⟩ := hS.peel 103 71 rfl rfl
  obtain ⟨F, hS⟩ := hS.nm [12, 10, 8, 7, 6] [104, 102, 101, 71, 70, 0] rfl rfl
  generalize cellN 0 v43 = va at hS
  generalize cellN 1 v43 = vb at hS
  refine then_n (wp_seq ?_)
  refine region_q hS
    (cF rfl (oF 1 104 .is) r1 r1
    (cF rfl (oL false 1 104 .adr) r1 r1
    (cF rfl (oM .t) r1 trivial
    (cF rfl (oM .t) r1 trivial
    (cF rfl (o_indexAddr_row (sz := 2) 71 (.mk Tryz.underlying23 (by kernel_rfl)) .is .t (by omega) (by omega) (by rfl)) r2 r1
    (cF rfl (o_fieldAddr_row (off := 1) (sz := 2) 71 .t (by omega) (by kernel_rfl) (by rfl)) r1 r1
    (cF rfl (o_store_rowF (R := rOrd) (sz := 2) (off := 1) (v' := (⟨(Go.Gm.nth g.orders (lowK OrdD.key key g.orders)).key, (rule (Go.Gm.nth g.orders (lowK OrdD.key key g.orders)).txs).1⟩ : OrdD)) 71 .t (by intro x; rfl) (by omega) (by decide) .t one_sl rfl (by kernel_rfl)) r2 r1
    Chain.nil)))))))
    hB ?_
  clear hS; intro a w F hS
  obtain ⟨F, hS⟩ := hS.nm [12, 7, 6] [104, 102, 101, 71, 70, 0] rfl rfl
  try dsimp only [List.map, stCells, xL, xM, Nat.reduceAdd, xD, xE, xT, xU, xC, xN, zCF, ldSF, rHist, rTx, rOrd, rVer, rInt, rOp] at hS
  try simp only [Int.toNat_natCast] at hS
  refine then_n (wp_seq ?_)
  obtain ⟨F, hS⟩ := hS.giveCell 70 104 0 rfl rfl rfl rfl rfl
  try dsimp only [List.set] at hS
  obtain ⟨F, hS⟩ := hS.nm [12, 7, 6] [104, 102, 101, 71, 0] rfl rfl
  obtain ⟨F, hS⟩ := hS.giveCell 71 104 1 rfl rfl rfl rfl rfl
  try dsimp only [List.set] at hS
  obtain ⟨F, hS⟩ := hS.nm [12, 7, 6] [104, 102, 101, 0] rfl rfl
  refine region_q hS
    (cF rfl (oL true 2 104 .is) r1 r1
    (cF rfl (oA 2 102 .is .t) r2 r1
    (cF rfl (oN (.ci (by kernel_rfl))) trivial trivial
    Chain.nil)))
    hB ?_
  clear hS; intro a w F hS
  obtain ⟨F, hS⟩ := hS.nm [7, 6] [104, 102, 101, 0] rfl rfl
  try dsimp only [List.map, stCells, xL, xM, Nat.reduceAdd, xD, xE, xT, xU, xC, xN, zCF, ldSF, rHist, rTx, rOrd, rVer, rInt, rOp] at hS
  refine then_n (wp_ret ?_)
  refine ret_P hfr hS rfl (.cell (n := 102) (ag := true) (sz := 2) rfl .is rfl (by kernel_rfl) (by kernel_rfl) (by kernel_rfl) (.tmp rfl .nil)) (.two (by rw [hg]; first | exact .aggU rfl rfl | exact .aggLe rfl ⟨PVLe.nilSl, PVLe.nilSl, trivial⟩) (.int (by rw [hg])))

theorem reorder1_c (l : List Int) (o : OrdD) (hl : l.length ≤ 1000) (ho : o.txs.length ≤ 1000) : FnP Tryz.prog 73 [.sl rInt l, .ref (rOrd o)] (.tup [.sl rInt (ruleR o l).1, .int .i64 (ruleR o l).2]) := by
  refine FnP.mk Tryz.func73 rfl Tryz.ntmps73 rfl ?_
  intro B a w F hB hfr hS
  refine wp_seq ?_
  refine region_q hS
    (cF rfl (oN (.c rfl)) trivial trivial
    (cF rfl (oN (.ci (by kernel_rfl))) trivial trivial
    Chain.nil))
    hB ?_
  clear hS; intro a w F hS
  obtain ⟨F, hS⟩ := hS.nm [4, 3, 1, 0] [0] rfl rfl
  try dsimp only [rHist, rTx, rOrd, rVer, rInt, rOp] at hS
  refine then_n (wp_seq (wp_seq ?_))
  refine region_q hS
    (cF rfl (oM .t) r1 trivial
    (cF rfl (oG 1 .t) r1 trivial
    (cF rfl (oR false 1 .t) r1 trivial
    (cF rfl (oP (perm_c l o.txs (by omega) (by omega)) Tryz.func39 (Args.two .t .t)) r2 trivial
    (cF rfl (o_not .t) r1 trivial
    Chain.nil)))))
    hB ?_
  clear hS; intro a w F hS
  obtain ⟨F, hS⟩ := hS.nm [9, 4, 3, 1] [0] rfl rfl
  try dsimp only [List.map, xD, xE, xT, xU, ldSF, rHist, rTx, rOrd, rVer, rInt, rOp] at hS
  refine then_n ?_
  refine cond_b hS rfl (fun hc0 => ?_) (fun hc0 => ?_)
  ·skip
   have hg : ruleR o l = ([], 8) := by unfold ruleR; rw [if_neg (by simpa using hc0)]
   refine wp_seq ?_
   refine region_q hS
     (cF rfl (oN (.c rfl)) trivial trivial
     (cF rfl (oN (.ci (by kernel_rfl))) trivial trivial
     Chain.nil))
     hB ?_
   clear hS; intro a w F hS
   obtain ⟨F, hS⟩ := hS.nm [4, 3, 1] [0] rfl rfl
   try dsimp only [rHist, rTx, rOrd, rVer, rInt, rOp] at hS
   refine then_n (wp_ret (then_r ?_))
   refine ret_P hfr hS rfl (.tmp rfl (.tmp rfl .nil)) (.two (.trans .nilSl (.sl (by rw [hg]))) (.int (by rw [hg])))
  have hg : ruleR o l = (o.txs, 0) := by unfold ruleR; rw [if_pos (by simpa using hc0)]
  refine wp_skip (then_n (wp_seq ?_))
  refine region_q hS
    (cF rfl (oG 1 .t) r1 trivial
    (cF rfl (oR false 1 .t) r1 trivial
    (cF rfl (oP (cloneIP_c o.txs (by omega)) Tryz.func47 (Args.one .t)) r1 trivial
    (cF rfl (oN .t) r1 trivial
    (cF rfl (oN (.ci (by kernel_rfl))) trivial trivial
    Chain.nil)))))
    hB ?_
  clear hS; intro a w F hS
  obtain ⟨F, hS⟩ := hS.nm [4, 3] [0] rfl rfl
  try dsimp only [List.map, xD, xE, xT, xU, ldSF, rHist, rTx, rOrd, rVer, rInt, rOp] at hS
  refine then_n (wp_ret ?_)
  refine ret_P hfr hS rfl (.tmp rfl (.tmp rfl .nil)) (.two (.sl (by rw [hg])) (.int (by rw [hg])))

theorem move1_c (l : List Int) (id place : Int) (hl : l.length ≤ 1000) : FnP Tryz.prog 74 [.sl rInt l, .ref [.int .i64 id], .ref [.int .i64 place]] (.tup [.sl rInt (moveO l id place).1, .int .i64 (moveO l id place).2]) := by
  refine FnP.mk Tryz.func74 rfl Tryz.ntmps74 rfl ?_
  intro B a w F hB hfr hS
  refine wp_seq ?_
  refine region_q hS
    (cF rfl (oN (.c rfl)) trivial trivial
    (cF rfl (oN (.ci (by kernel_rfl))) trivial trivial
    Chain.nil))
    hB ?_
  clear hS; intro a w F hS
  obtain ⟨F, hS⟩ := hS.nm [5, 4, 2, 1, 0] [0] rfl rfl
  try dsimp only [rHist, rTx, rOrd, rVer, rInt, rOp] at hS
  refine then_n (wp_seq ?_)
  refine region_q hS
    (cF rfl (oM .t) r1 trivial
    (cF rfl (oR false 1 .t) r1 trivial
    (cF rfl (oR false 1 .t) r1 trivial
    (cF rfl (oP (omove_c l id place (by omega)) Tryz.func75 (Args.three .t .t .t)) r3 trivial
    (cF rfl (o_extract .t rfl) r1 trivial
    (cF rfl (o_extract .t rfl) r1 trivial
    (cF rfl (oN .t) r1 trivial
    (cF rfl (oN .t) r1 trivial
    Chain.nil))))))))
    hB ?_
  clear hS; intro a w F hS
  obtain ⟨F, hS⟩ := hS.nm [5, 4] [0] rfl rfl
  try dsimp only [List.map, xD, xE, xT, xU, ldSF, rHist, rTx, rOrd, rVer, rInt, rOp] at hS
  refine then_n (wp_ret ?_)
  refine ret_P hfr hS rfl (.tmp rfl (.tmp rfl .nil)) (.two .refl .refl)

theorem hReorder_c (g : HistD) (o : OrdD) (hs : Small g) (ho : o.txs.length ≤ 1000) : FnP Tryz.prog 32 [.agg (rHist g), .agg (rOrd o)] (.tup [.agg (rHist (reorderH g o).1), .int .i64 (reorderH g o).2]) := by
  refine FnP.mk Tryz.func32 rfl Tryz.ntmps32 rfl ?_
  intro B a w F hB hfr hS
  refine wp_seq ?_
  refine region_q hS
    (cF rfl (oX 101 (.conv .t .agg)) r1 trivial
    (cF rfl (oX 102 (.conv .t .agg)) r1 trivial
    (cF rfl (oH [.slice none 0 0, .slice none 0 0] 103) trivial trivial
    (cF rfl (oN (.ci (by kernel_rfl))) trivial trivial
    Chain.nil))))
    hB ?_
  clear hS; intro a w F hS
  replace hS := hS.sub
  obtain ⟨F, hS⟩ := hS.nm [5, 4, 3, 2] [103, 102, 101, 0] rfl rfl
  try dsimp only [RS.sub, SF.sub, CF.sub, csub, Anc.sub, List.map, zCF, rHist, rTx, rOrd, rVer, rInt, rOp] at hS
  generalize Act.tau a 2 = v2 at hS
  generalize Act.tau a 3 = v3 at hS
  generalize Act.tau a 4 = v4 at hS
  refine then_n (wp_seq ?_)
  refine part_first 3 hS (by kernel_rfl)
    (cG rfl (oL true 2 101 .is) r1 r1
    (cG rfl (oF 0 102 .is) r1 r1
    (cG rfl (oL false 1 102 .adr) r1 r1
    ChainN.nil)))
    (by kernel_rfl) (by rw [hB]; kernel_rfl) ?_
  clear hS; intro a w F hS
  obtain ⟨F, hS⟩ := hS.nm [8, 6, 5, 4, 3] [103, 102, 101, 0] rfl rfl
  try dsimp only [List.map, xD, xE, xT, xU, ldSF, rHist, rTx, rOrd, rVer, rInt, rOp] at hS
  obtain ⟨F, hS⟩ := hS.giveRef 102 3 rfl rfl rfl
  obtain ⟨F, hS⟩ := hS.nm [8, 6, 5, 4, 3] [103, 101, 0] rfl rfl
  try dsimp only [Go.Gm.unCF] at hS
  refine part_last hS (by kernel_rfl)
    (cG rfl (o_makeFunc (Args.one .t)) r1 trivial
    (cG rfl (oP (turned_c g o.key (ruleR o) 73 Tryz.f73 [.ref (rOrd o)] Tryz.func73 rfl (by kernel_rfl) (fun l hl => reorder1_c l o hl ho) hs) Tryz.func72 (Args.three (.pagg .t) .t .t)) r3 trivial
    (cG rfl (o_extract .t rfl) r1 trivial
    (cG rfl (o_extract .t rfl) r1 trivial
    (cG rfl (oA 2 103 .is (.conv .t .agg)) r2 r1
    (cG rfl (oN .t) r1 trivial
    ChainN.nil))))))
    (by kernel_rfl) (by rw [hB]; kernel_rfl) ?_
  clear hS; intro a w F hS
  obtain ⟨F, hS⟩ := hS.nm [5, 4] [103, 101, 0] rfl rfl
  try dsimp only [List.map, stCells, xL, xM, Nat.reduceAdd, xD, xE, xT, xU, xC, xN, zCF, rHist, rTx, rOrd, rVer, rInt, rOp] at hS
  refine then_n (wp_ret ?_)
  refine ret_P hfr hS rfl (.cell (n := 103) (ag := true) (sz := 2) rfl .is rfl (by kernel_rfl) (by kernel_rfl) (by kernel_rfl) (.tmp rfl .nil)) (.two (.aggU rfl rfl) .refl)

theorem hMove_c (g : HistD) (key id place : Int) (hs : Small g) : FnP Tryz.prog 33 [.agg (rHist g), .int .i64 key, .int .i64 id, .int .i64 place] (.tup [.agg (rHist (moveH g key id place).1), .int .i64 (moveH g key id place).2]) := by
  refine FnP.mk Tryz.func33 rfl Tryz.ntmps33 rfl ?_
  intro B a w F hB hfr hS
  refine wp_seq ?_
  refine region_q hS
    (cF rfl (oX 101 (.conv .t .agg)) r1 trivial
    (cF rfl (o_box1 102 .t one_int) r1 trivial
    (cF rfl (o_box1 103 .t one_int) r1 trivial
    (cF rfl (oH [.slice none 0 0, .slice none 0 0] 104) trivial trivial
    (cF rfl (oN (.ci (by kernel_rfl))) trivial trivial
    Chain.nil)))))
    hB ?_
  clear hS; intro a w F hS
  replace hS := hS.sub
  obtain ⟨F, hS⟩ := hS.nm [9, 8, 7, 6, 4, 1] [104, 103, 102, 101, 0] rfl rfl
  try dsimp only [RS.sub, SF.sub, CF.sub, csub, Anc.sub, List.map, zCF, rHist, rTx, rOrd, rVer, rInt, rOp] at hS
  generalize Act.tau a 4 = v4 at hS
  generalize Act.tau a 6 = v6 at hS
  generalize Act.tau a 7 = v7 at hS
  generalize Act.tau a 8 = v8 at hS
  refine then_n (wp_seq ?_)
  refine part_first 2 hS (by kernel_rfl)
    (cG rfl (oL true 2 101 .is) r1 r1
    (cG rfl (oM .t) r1 trivial
    ChainN.nil))
    (by kernel_rfl) (by rw [hB]; kernel_rfl) ?_
  clear hS; intro a w F hS
  obtain ⟨F, hS⟩ := hS.nm [11, 10, 9, 8, 7, 6] [104, 103, 102, 101, 0] rfl rfl
  try dsimp only [List.map, xD, xE, xT, xU, ldSF, rHist, rTx, rOrd, rVer, rInt, rOp] at hS
  obtain ⟨F, hS⟩ := hS.giveRef 102 6 rfl rfl rfl
  obtain ⟨F, hS⟩ := hS.nm [11, 10, 9, 8, 7, 6] [104, 103, 101, 0] rfl rfl
  try dsimp only [Go.Gm.unCF] at hS
  obtain ⟨F, hS⟩ := hS.giveRef 103 7 rfl rfl rfl
  obtain ⟨F, hS⟩ := hS.nm [11, 10, 9, 8, 7, 6] [104, 101, 0] rfl rfl
  try dsimp only [Go.Gm.unCF] at hS
  refine part_last hS (by kernel_rfl)
    (cG rfl (o_makeFunc (Args.two .t .t)) r2 trivial
    (cG rfl (oP (turned_c g key (fun l => moveO l id place) 74 Tryz.f74 [.ref [.int .i64 id], .ref [.int .i64 place]] Tryz.func74 rfl (by kernel_rfl) (fun l hl => move1_c l id place hl) hs) Tryz.func72 (Args.three (.pagg .t) .t .t)) r3 trivial
    (cG rfl (o_extract .t rfl) r1 trivial
    (cG rfl (o_extract .t rfl) r1 trivial
    (cG rfl (oA 2 104 .is (.conv .t .agg)) r2 r1
    (cG rfl (oN .t) r1 trivial
    ChainN.nil))))))
    (by kernel_rfl) (by rw [hB]; kernel_rfl) ?_
  clear hS; intro a w F hS
  obtain ⟨F, hS⟩ := hS.nm [9, 8] [104, 101, 0] rfl rfl
  try dsimp only [List.map, stCells, xL, xM, Nat.reduceAdd, xD, xE, xT, xU, xC, xN, zCF, rHist, rTx, rOrd, rVer, rInt, rOp] at hS
  refine then_n (wp_ret ?_)
  refine ret_P hfr hS rfl (.cell (n := 104) (ag := true) (sz := 2) rfl .is rfl (by kernel_rfl) (by kernel_rfl) (by kernel_rfl) (.tmp rfl .nil)) (.two (.aggU rfl rfl) .refl)

end Go.Proofs.YtpjjmolibanakaaGreat
