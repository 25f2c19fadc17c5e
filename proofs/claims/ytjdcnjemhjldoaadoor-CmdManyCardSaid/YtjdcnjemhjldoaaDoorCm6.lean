/- Commands there and back. No condition beyond those that each theorem says. -/
import Derived.Test.YtjdcnjemhjldoaaDoorCm4
import Derived.Test.YtjdcnjemhjldoaaDoorCm5
import Derived.Test.YtjdcnjemhjldoaaDoorOpT
import Derived.Test.YtjdcnjemhjldoaaDoorNuT
import Derived.Test.YtjdcnjemhjldoaaDoorLxW
namespace Go.Proofs.YtjdcnjemhjldoaaDoor
open Go Go.Gm
set_option linter.unusedVariables false
set_option linter.unusedSimpArgs false
set_option maxHeartbeats 4000000
set_option maxRecDepth 8000


theorem zero_ok : (0 : Int) ≤ 0 ∧ (0 : Int) ≤ 2147483647 := ⟨by decide, by decide⟩
theorem joinL_flat : ∀ (r : List (List UInt8)) (x : List UInt8), joinL (x :: r) = x ++ r.flatMap fun y => 32 :: y
  | [], x => by simp [joinL]
  | y :: r, x => by rw [joinL, joinL_flat r y, List.flatMap_cons]; simp
theorem words_join_take (l : List Int) : ∀ i, i ≤ l.length → wordsTo l i = joinL ((l.map textL).take i)
  | 0, _ => rfl
  | i + 1, h => by
    have hi : i < l.length := by omega
    rw [wordsTo, words_join_take l i (by omega), join_step (by simpa using hi), show nth (l.map textL) i = textL (nth l i) by rw [nth_eq (by simpa using hi), nth_eq hi]; simp]
    split <;> simp
theorem wordsL_join (l : List Int) : wordsL l = joinL (l.map textL) := by
  unfold wordsL
  rw [words_join_take l _ (Nat.le_refl _), show l.length = (l.map textL).length by simp, List.take_length]
def bodyC (c : CmdD) : List (List UInt8) :=
  if c.kind = 1 ∨ c.kind = 2 then textL c.tx.id :: (if c.tx.done = true then [99] else [97]) :: c.tx.ops.map textO else if c.kind = 3 ∨ c.kind = 10 then [textL c.id] else if c.kind = 4 then (c.order.key :: c.order.txs).map textL
  else if c.kind = 5 then [c.key, c.id, c.place].map textL else if c.kind = 9 then [codeR c.phen] else []
def wC (c : CmdD) : List (List UInt8) := (saidR c.kind).s :: bodyC c
theorem opsT_map : ∀ l : List OpD, opsT l = (l.map textO).flatMap fun y => 32 :: y
  | [] => rfl
  | o :: l => by
    have := opsT_map l
    unfold opsT at this ⊢
    rw [List.flatMap_cons, List.map_cons, List.flatMap_cons, this]
theorem textC_join {c : CmdD} (h : rightC c = true) : textC c = joinL (wC c) := by
  unfold textC wC
  rw [if_neg (by rw [h]; decide), joinL_flat, joinL_flat]
  congr 1
  unfold restC bodyC
  split
  · unfold textT headT
    rw [opsT_map]
    simp only [List.flatMap_cons, List.flatMap_nil, List.append_nil]
    split <;> simp
  · split
    · rfl
    · split
      · rw [wordsL_join, List.map_cons, joinL_flat]; simp
      · split
        · rw [wordsL_join, List.map_cons, joinL_flat]; simp
        · split <;> rfl
theorem fine_of {x : List UInt8} (h : x ≠ []) (k : ∀ b ∈ x, 32 < b.toNat ∧ b.toNat < 127) : FineW x := ⟨h, fun j hj => k _ (nth_mem hj)⟩
theorem digit_ok {c : UInt8} (h : digit c = true) : 32 < c.toNat ∧ c.toNat < 127 := by
  unfold digit at h
  simp at h
  omega
theorem text_bytes {n : Int} (h : 0 ≤ n) : ∀ b ∈ textL n, 32 < b.toNat ∧ b.toNat < 127 := fun b hb => digit_ok (List.all_eq_true.1 (text_digits h) b hb)
theorem text_fine {n : Int} (h : 0 ≤ n) : FineW (textL n) := fine_of (textL_ne n) (text_bytes h)
theorem textO_fine {o : OpD} (hk : rightO o = true) : FineW (textO o) := by
  have hb := right_rng hk
  have b1 := text_bytes (n := o.key) (by omega)
  have b2 := text_bytes (n := o.tx) (by omega)
  have b3 := text_bytes (n := o.nth) (by omega)
  have b0 := text_bytes (n := 0) (by omega)
  by_cases hr : o.read = true
  · by_cases h : o.tx = 0
    · rw [textO_first hk hr h]
      refine fine_of (by simp) fun b hb => ?_
      simp only [List.mem_cons, List.mem_append] at hb
      rcases hb with rfl | hb | rfl | hb
      · decide
      · exact b1 b hb
      · decide
      · exact b0 b hb
    · rw [textO_read hk hr h]
      refine fine_of (by simp) fun b hb => ?_
      simp only [List.mem_cons, List.mem_append] at hb
      rcases hb with rfl | hb | rfl | hb | rfl | hb
      · decide
      · exact b1 b hb
      · decide
      · exact b2 b hb
      · decide
      · exact b3 b hb
  · rw [textO_write hk (by simpa using hr)]
    refine fine_of (by simp) fun b hb => ?_
    simp only [List.mem_cons] at hb
    rcases hb with rfl | hb
    · decide
    · exact b1 b hb
theorem said_fine {k : Int} (h : 1 ≤ k ∧ k ≤ 12) : FineW (saidR k).s := by
  have : (saidR k).s ≠ [] ∧ (saidR k).s.all (fun b => decide (32 < b.toNat) && decide (b.toNat < 127)) = true := by
    rcases kinds h with rfl | rfl | rfl | rfl | rfl | rfl | rfl | rfl | rfl | rfl | rfl | rfl <;> decide +kernel
  refine fine_of this.1 fun b hb => ?_
  have h9 := List.all_eq_true.1 this.2 b hb
  simpa using h9
theorem code_fine {p : Int} (h : codeR p ≠ []) : FineW (codeR p) := by
  have hp := (code_phen h).1
  have : (codeR p).all (fun b => decide (32 < b.toNat) && decide (b.toNat < 127)) = true := by
    have : p = 1 ∨ p = 2 ∨ p = 3 ∨ p = 4 ∨ p = 5 := by omega
    rcases this with rfl | rfl | rfl | rfl | rfl <;> decide +kernel
  refine fine_of h fun b hb => ?_
  have h9 := List.all_eq_true.1 this b hb
  simpa using h9
theorem ops_right {c : CmdD} (h : rightC c = true) : ∀ o ∈ c.tx.ops, rightO o = true := by
  unfold rightC at h
  simp only [Bool.and_eq_true] at h
  exact fun o ho => List.all_eq_true.1 h.2.2 o ho
theorem body_fine {c : CmdD} (h : rightC c = true) : ∀ x ∈ bodyC c, FineW x := by
  have hr := nums_mem h
  have hh := rightC_head h
  have m1 := hr c.tx.id (by unfold numsC; simp)
  have m2 := hr c.id (by unfold numsC; simp)
  have m3 := hr c.order.key (by unfold numsC; simp)
  have m4 := hr c.key (by unfold numsC; simp)
  have m5 := hr c.place (by unfold numsC; simp)
  have m6 : ∀ n ∈ c.order.txs, 0 ≤ n ∧ n ≤ 2147483647 := fun n hn => hr n (by unfold numsC; simp [hn])
  have ho := ops_right h
  unfold bodyC
  intro x hx
  split at hx
  · rcases List.mem_cons.1 hx with rfl | hx
    · exact text_fine m1.1
    · rcases List.mem_cons.1 hx with rfl | hx
      · split
        · exact fine_of (by simp) (fun b hb => by simp at hb; subst hb; decide)
        · exact fine_of (by simp) (fun b hb => by simp at hb; subst hb; decide)
      · obtain ⟨o, hm, rfl⟩ := List.mem_map.1 hx
        exact textO_fine (ho o hm)
  · split at hx
    · simp at hx; subst hx; exact text_fine m2.1
    · split at hx
      · obtain ⟨n, hm, rfl⟩ := List.mem_map.1 hx
        rcases List.mem_cons.1 hm with rfl | hm
        · exact text_fine m3.1
        · exact text_fine (m6 n hm).1
      · split at hx
        · obtain ⟨n, hm, rfl⟩ := List.mem_map.1 hx
          simp only [List.mem_cons, List.not_mem_nil, or_false] at hm
          rcases hm with rfl | rfl | rfl
          · exact text_fine m4.1
          · exact text_fine m2.1
          · exact text_fine m5.1
        · split at hx
          · rename_i hk
            simp at hx; subst hx
            exact code_fine fun hc => hh.2.2.2 ⟨hk, hc⟩
          · simp at hx
theorem wC_fine {c : CmdD} (h : rightC c = true) : ∀ j, j < (wC c).length → FineW (nth (wC c) j) := by
  intro j hj
  have hm := nth_mem hj
  unfold wC at hm
  rcases List.mem_cons.1 hm with e | hm
  · unfold wC; rw [e]; exact said_fine (said_kind (rightC_head h).1)
  · exact body_fine h _ hm
theorem nums_text {l : List Int} (h : ∀ n ∈ l, 0 ≤ n ∧ n ≤ 2147483647) : numsR (l.map textL) = (l, 0) := by
  have hz : ∀ n ∈ l, readR (textL n) = (n, 0) := fun n hn => by
    have := h n hn
    rw [read_text this.1, if_neg (by omega)]
  have hb : badR (l.map textL) = 0 := bad_none fun j hj => by
    have hm : nth (l.map textL) j ∈ l.map textL := nth_mem hj
    obtain ⟨n, hn, e⟩ := List.mem_map.1 hm
    rw [← e, hz n hn]
  unfold numsR
  rw [if_neg (by rw [hb]; decide)]
  unfold valsR
  rw [List.map_map]
  congr 1
  conv => rhs; rw [← List.map_id l]
  exact List.map_congr_left fun n hn => by simp [hz n hn]
theorem tx_text {t : TxD} (h : 0 ≤ t.id ∧ t.id ≤ 2147483647) (h2 : t.ops.length ≤ 4095) (h3 : ∀ o ∈ t.ops, rightO o = true) : txR (textL t.id :: (if t.done = true then [99] else [97]) :: t.ops.map textO) = (t, 0) := by
  have hz : ∀ o ∈ t.ops, opR (textO o) = (o, 0) := fun o ho => opR_text (h3 o ho)
  have hb : badO (t.ops.map textO) = 0 := badO_none fun j hj => by
    have hm : nth (t.ops.map textO) j ∈ t.ops.map textO := nth_mem hj
    obtain ⟨o, ho, e⟩ := List.mem_map.1 hm
    rw [← e, hz o ho]
  have ho : opsR (t.ops.map textO) = t.ops := by
    unfold opsR
    rw [List.map_map]
    conv => rhs; rw [← List.map_id t.ops]
    exact List.map_congr_left fun o ho => by simp [hz o ho]
  have hr : readR (textL t.id) = (t.id, 0) := by rw [read_text h.1, if_neg (by omega)]
  unfold txR
  have e0 : nth (textL t.id :: (if t.done = true then [99] else [97]) :: t.ops.map textO) 0 = textL t.id := rfl
  have e1 : nth (textL t.id :: (if t.done = true then ([99] : List UInt8) else [97]) :: t.ops.map textO) 1 = if t.done = true then [99] else [97] := rfl
  have e2 : (textL t.id :: (if t.done = true then ([99] : List UInt8) else [97]) :: t.ops.map textO).drop 2 = t.ops.map textO := rfl
  rw [if_neg (by simp only [List.length_cons, List.length_map]; omega), e0, e1, e2, hr, if_neg (by simp), if_neg (by cases t.done <;> simp), if_neg (by rw [hb]; decide), ho]
  cases t with
  | mk i d o => cases d <;> rfl
theorem fill_text {c : CmdD} (h : rightC c = true) : fillR c.kind (bodyC c) = (c, 0) := by
  have hr := nums_mem h
  obtain ⟨hh, hu, hop, hph⟩ := rightC_head h
  have m1 := hr c.tx.id (by unfold numsC; simp)
  have m2 := hr c.id (by unfold numsC; simp)
  have m3 := hr c.order.key (by unfold numsC; simp)
  have m4 := hr c.key (by unfold numsC; simp)
  have m5 := hr c.place (by unfold numsC; simp)
  have m6 : ∀ n ∈ c.order.txs, 0 ≤ n ∧ n ≤ 2147483647 := fun n hn => hr n (by unfold numsC; simp [hn])
  have ho := ops_right h
  unfold usedR at hu
  unfold fillR bodyC
  by_cases h1 : c.kind = 1 ∨ c.kind = 2
  · rw [if_pos h1, if_pos h1, tx_text m1 hop ho]
    rw [if_pos h1] at hu
    exact Prod.ext hu.symm rfl
  · rw [if_neg h1] at hu ⊢
    rw [if_neg h1]
    by_cases h9 : c.kind = 9
    · rw [if_pos h9, if_neg (by omega), if_neg (by omega), if_neg (by omega), if_pos h9]
      rw [if_neg (by omega), if_neg (by omega), if_neg (by omega), if_pos h9] at hu
      have hc := code_phen fun hc => hph ⟨h9, hc⟩
      have e0 : nth [codeR c.phen] 0 = codeR c.phen := rfl
      rw [e0, hc.2, if_neg (by omega)]
      exact Prod.ext hu.symm rfl
    · rw [if_neg h9]
      by_cases h3 : c.kind = 3 ∨ c.kind = 10
      · rw [if_pos h3] at hu ⊢
        have hn := nums_text (l := [c.id]) (fun n hn => by simp at hn; subst hn; exact m2)
        rw [show [textL c.id] = [c.id].map textL from rfl, hn, if_neg (by simp), if_pos h3]
        exact Prod.ext hu.symm rfl
      · rw [if_neg h3] at hu ⊢
        by_cases h4 : c.kind = 4
        · rw [if_pos h4] at hu ⊢
          have hn := nums_text (l := c.order.key :: c.order.txs) (fun n hn => by rcases List.mem_cons.1 hn with rfl | hn; exact m3; exact m6 n hn)
          rw [hn, if_neg (by simp), if_neg h3, if_pos h4]
          exact Prod.ext hu.symm rfl
        · rw [if_neg h4] at hu ⊢
          by_cases h5 : c.kind = 5
          · rw [if_pos h5] at hu ⊢
            have hn := nums_text (l := [c.key, c.id, c.place]) (fun n hn => by simp at hn; rcases hn with rfl | rfl | rfl; exact m4; exact m2; exact m5)
            rw [hn, if_neg (by simp), if_neg h3, if_neg h4, if_pos h5]
            exact Prod.ext hu.symm rfl
          · rw [if_neg h5, if_neg h9] at hu ⊢
            rw [if_neg (by simp [numsR, badR]), if_neg h3, if_neg h4, if_neg h5]
            exact Prod.ext hu.symm rfl
theorem body_len {c : CmdD} (h : rightC c = true) (hc : c.order.txs.length ≤ 998) : (saidR c.kind).least ≤ ((bodyC c).length : Int) + 1 ∧ ((bodyC c).length : Int) + 1 ≤ (saidR c.kind).most := by
  have hk := said_kind (rightC_head h).1
  have hop := (rightC_head h).2.2.1
  obtain ⟨k, t, o, a1, a2, a3, a4⟩ := c
  dsimp only at hk hop hc ⊢
  rcases kinds hk with rfl | rfl | rfl | rfl | rfl | rfl | rfl | rfl | rfl | rfl | rfl | rfl
  all_goals (first | (refine ⟨?_, ?_⟩ <;> (simp [bodyC, saidR]; done)) | (refine ⟨?_, ?_⟩ <;> (simp [bodyC, saidR] <;> omega)))
theorem parse_wC {c : CmdD} (h : rightC c = true) (hc : c.order.txs.length ≤ 998) : parseW (wC c) = (c, 0) := by
  have hk := said_kind (rightC_head h).1
  have hl := body_len h hc
  have hf := fill_text h
  unfold parseW wC
  have e0 : nth ((saidR c.kind).s :: bodyC c) 0 = (saidR c.kind).s := rfl
  have e1 : ((saidR c.kind).s :: bodyC c).drop 1 = bodyC c := rfl
  have e2 : ((((saidR c.kind).s :: bodyC c).length : Nat) : Int) = ((bodyC c).length : Int) + 1 := by rw [List.length_cons]; omega
  rw [e0, e1, e2, findK_said hk, if_neg (by simp), if_neg (by omega), if_neg (by omega), if_neg (by omega), hf, if_neg (by simp)]
theorem parse_text {c : CmdD} (h : rightC c = true) (hc : c.order.txs.length ≤ 998) : parseR (textC c) = (c, 0) := by
  have hw := words_join (wC_fine h)
  rw [textC_join h]
  unfold parseR
  rw [hw, if_neg (by simp)]
  exact parse_wC h hc
theorem textC_ne {c : CmdD} : decide (textC c = []) = !rightC c := by
  by_cases h : rightC c = true
  · rw [h]
    refine decide_eq_false fun e => ?_
    rw [textC_join h] at e
    unfold wC at e
    rw [joinL_flat] at e
    exact (rightC_head h).1 (List.append_eq_nil_iff.1 e).1
  · have h' : rightC c = false := by simpa using h
    rw [h']
    unfold textC
    rw [if_pos h']
    rfl
theorem textC_len {c : CmdD} (h : rightC c = true) (hc : c.order.txs.length ≤ 998) : (textC c).length ≤ 600000 := by
  obtain ⟨h1, h2⟩ := restC_sum h hc
  have h3 := said_len c.kind
  have h4 := join_len ((saidR c.kind).s :: restC c)
  unfold textC
  rw [if_neg (by rw [h]; decide)]
  unfold sumL at h2 h4
  rw [List.map_cons, List.sum_cons, List.length_cons] at h4
  omega
theorem nums_back {l : List (List UInt8)} (h : (numsR l).2 = 0) : (numsR l).1.map textL = l ∧ (∀ n ∈ (numsR l).1, 0 ≤ n ∧ n ≤ 2147483647) ∧ (numsR l).1.length = l.length := by
  obtain ⟨h1, h2⟩ := nums_len h
  have hz := bad_zero h2
  rw [h1]
  refine ⟨?_, fun n hn => ?_, vals_len l⟩
  · unfold valsR
    rw [List.map_map]
    conv => rhs; rw [← List.map_id l]
    exact List.map_congr_left fun x hx => (read_back (hz x hx)).1
  · obtain ⟨x, hx, rfl⟩ := List.mem_map.1 hn
    exact (read_back (hz x hx)).2
theorem tx_back {l : List (List UInt8)} (h2 : 2 ≤ l.length) (h : (txR l).2 = 0) : textL (txR l).1.id :: (if (txR l).1.done = true then [99] else [97]) :: (txR l).1.ops.map textO = l ∧ (0 ≤ (txR l).1.id ∧ (txR l).1.id ≤ 2147483647) ∧ (txR l).1.ops.length ≤ 4095 ∧ (txR l).1.ops.all rightO = true := by
  unfold txR at h ⊢
  split at h
  · cases h
  · rename_i h4
    rw [if_neg h4]
    split at h
    · rename_i h5; exact absurd h h5
    · rename_i h5
      rw [if_neg h5]
      split at h
      · cases h
      · rename_i h6
        rw [if_neg h6]
        split at h
        · rename_i h7; exact absurd h h7
        · rename_i h7
          rw [if_neg h7]
          have hb := badO_zero (Classical.not_not.1 h7)
          obtain ⟨r1, r2⟩ := read_back (Classical.not_not.1 h5)
          have hw : ∀ x ∈ l.drop 2, rightO (opR x).1 = true ∧ textO (opR x).1 = x := fun x hx => by
            rcases opR_cases x with ⟨g1, _⟩ | ⟨_, g2⟩
            · exact absurd (hb x hx) g1
            · exact g2
          match l, h2 with
          | x :: y :: r, _ =>
            have hy : (if (decide (nth (x :: y :: r) 1 = [99])) = true then ([99] : List UInt8) else [97]) = y := by
              have hy1 : nth (x :: y :: r) 1 = y := rfl
              rw [hy1] at h6 ⊢
              by_cases hc : y = [99]
              · simp [hc]
              · have : y = [97] := Classical.byContradiction fun hn => h6 ⟨hc, hn⟩
                simp [this]
            refine ⟨?_, r2, ?_, ?_⟩
            · dsimp only
              rw [hy]
              have e0 : nth (x :: y :: r) 0 = x := rfl
              rw [e0] at r1
              rw [e0, r1]
              congr 2
              unfold opsR
              rw [List.map_map]
              conv => rhs; rw [← List.map_id r]
              exact List.map_congr_left fun z hz => (hw z hz).2
            · show (opsR r).length ≤ 4095
              unfold opsR
              rw [List.length_map]
              simp only [List.length_cons] at h4
              omega
            · show (opsR r).all rightO = true
              unfold opsR
              rw [List.all_eq_true]
              intro o ho
              obtain ⟨z, hz, rfl⟩ := List.mem_map.1 ho
              exact (hw z hz).1
theorem rightC_mk {c : CmdD} (h1 : headC c) (h2 : ∀ n ∈ numsC c, 0 ≤ n ∧ n ≤ 2147483647) (h3 : c.tx.ops.all rightO = true) : rightC c = true := by
  unfold rightC
  rw [decide_eq_true h1, h3, show (numsC c).all numB = true from List.all_eq_true.2 fun n hn => numB_iff.2 (h2 n hn)]
  rfl
theorem numsC_mem {c : CmdD} {n : Int} (h : n ∈ numsC c) : n = c.tx.id ∨ n = c.id ∨ n = c.order.key ∨ n = c.key ∨ n = c.place ∨ n ∈ c.order.txs := by
  unfold numsC at h
  simpa using h
theorem fill_back {k : Int} {l : List (List UInt8)} (hk : 1 ≤ k ∧ k ≤ 12) (h1 : (saidR k).least ≤ (l.length : Int) + 1) (h2 : (l.length : Int) + 1 ≤ (saidR k).most) (h : (fillR k l).2 = 0) : (fillR k l).1.kind = k ∧ rightC (fillR k l).1 = true ∧ bodyC (fillR k l).1 = l := by
  have hs : (saidR k).s ≠ [] := (said_fine hk).1
  unfold fillR at h ⊢
  by_cases c1 : k = 1 ∨ k = 2
  · rw [if_pos c1] at h ⊢
    have hl : 2 ≤ l.length := by rcases c1 with rfl | rfl <;> (have h9 : (3 : Int) ≤ (l.length : Int) + 1 := h1; omega)
    obtain ⟨g1, g2, g3, g4⟩ := tx_back hl h
    refine ⟨rfl, rightC_mk ⟨hs, ?_, g3, fun hx => by have h9 : k = 9 := hx.1; omega⟩ (fun n hn => ?_) g4, ?_⟩
    · unfold usedR; rw [if_pos (show (zeroC k).kind = 1 ∨ (zeroC k).kind = 2 from c1)]; rfl
    · rcases numsC_mem hn with rfl | rfl | rfl | rfl | rfl | hn
      · exact g2
      · exact zero_ok
      · exact zero_ok
      · exact zero_ok
      · exact zero_ok
      · cases hn
    · unfold bodyC; rw [if_pos (show (zeroC k).kind = 1 ∨ (zeroC k).kind = 2 from c1)]; exact g1
  · rw [if_neg c1] at h ⊢
    by_cases c9 : k = 9
    · rw [if_pos c9] at h ⊢
      have hp : phenR (nth l 0) ≠ 0 := fun e => by simp [e] at h
      obtain ⟨g1, g2⟩ := (phenR_range (nth l 0)).resolve_left hp
      have hl : l.length = 1 := by
        subst c9
        have h9 : (2 : Int) ≤ (l.length : Int) + 1 := h1
        have h8 : (l.length : Int) + 1 ≤ (2 : Int) := h2
        omega
      have hcn : codeR (phenR (nth l 0)) ≠ [] := by
        have : phenR (nth l 0) = 1 ∨ phenR (nth l 0) = 2 ∨ phenR (nth l 0) = 3 ∨ phenR (nth l 0) = 4 ∨ phenR (nth l 0) = 5 := by omega
        rcases this with e | e | e | e | e <;> rw [e] <;> decide +kernel
      refine ⟨rfl, rightC_mk ⟨hs, ?_, Nat.zero_le _, fun hx => hcn hx.2⟩ (fun n hn => ?_) rfl, ?_⟩
      · subst c9; rfl
      · rcases numsC_mem hn with rfl | rfl | rfl | rfl | rfl | hn
        · exact zero_ok
        · exact zero_ok
        · exact zero_ok
        · exact zero_ok
        · exact zero_ok
        · cases hn
      · subst c9
        show [codeR (phenR (nth l 0))] = l
        rw [g2]
        match l, hl with
        | [x], _ => rfl
    · rw [if_neg c9] at h ⊢
      by_cases hn0 : (numsR l).2 ≠ 0
      · rw [if_pos hn0] at h; exact absurd h hn0
      · rw [if_neg hn0] at h ⊢
        obtain ⟨g1, g2, g3⟩ := nums_back (Classical.not_not.1 hn0)
        by_cases c3 : k = 3 ∨ k = 10
        · rw [if_pos c3] at h ⊢
          have hl : l.length = 1 := by rcases c3 with rfl | rfl <;> (have h9 : (2 : Int) ≤ (l.length : Int) + 1 := h1; have h8 : (l.length : Int) + 1 ≤ (2 : Int) := h2; omega)
          rw [hl] at g3
          match hN : (numsR l).1, g3 with
          | [a], _ =>
            rw [hN] at g1 g2
            refine ⟨rfl, rightC_mk ⟨hs, ?_, Nat.zero_le _, fun hx => by have h9 : k = 9 := hx.1; omega⟩ (fun n hn => ?_) rfl, ?_⟩
            · unfold usedR; rw [if_neg (show ¬ ((zeroC k).kind = 1 ∨ (zeroC k).kind = 2) from c1), if_pos (show (zeroC k).kind = 3 ∨ (zeroC k).kind = 10 from c3)]; rfl
            · rcases numsC_mem hn with rfl | rfl | rfl | rfl | rfl | hn
              · exact zero_ok
              · exact g2 _ (by simp)
              · exact zero_ok
              · exact zero_ok
              · exact zero_ok
              · cases hn
            · unfold bodyC; rw [if_neg (show ¬ ((zeroC k).kind = 1 ∨ (zeroC k).kind = 2) from c1), if_pos (show (zeroC k).kind = 3 ∨ (zeroC k).kind = 10 from c3)]; exact g1
        · rw [if_neg c3] at h ⊢
          by_cases c4 : k = 4
          · rw [if_pos c4] at h ⊢
            have hl : 1 ≤ l.length := by subst c4; have h9 : (2 : Int) ≤ (l.length : Int) + 1 := h1; omega
            match hN : (numsR l).1, g3 with
            | [], g3 => simp at g3; omega
            | a :: r, _ =>
              rw [hN] at g1 g2
              refine ⟨rfl, rightC_mk ⟨hs, ?_, Nat.zero_le _, fun hx => by have h9 : k = 9 := hx.1; omega⟩ (fun n hn => ?_) rfl, ?_⟩
              · subst c4; rfl
              · rcases numsC_mem hn with rfl | rfl | rfl | rfl | rfl | hn
                · exact zero_ok
                · exact zero_ok
                · exact g2 _ (by simp)
                · exact zero_ok
                · exact zero_ok
                · exact g2 n (List.mem_cons_of_mem _ hn)
              · subst c4; exact g1
          · rw [if_neg c4] at h ⊢
            by_cases c5 : k = 5
            · rw [if_pos c5] at h ⊢
              have hl : l.length = 3 := by
                subst c5
                have h9 : (4 : Int) ≤ (l.length : Int) + 1 := h1
                have h8 : (l.length : Int) + 1 ≤ (4 : Int) := h2
                omega
              rw [hl] at g3
              match hN : (numsR l).1, g3 with
              | [a, b, d], _ =>
                rw [hN] at g1 g2
                refine ⟨rfl, rightC_mk ⟨hs, ?_, Nat.zero_le _, fun hx => by have h9 : k = 9 := hx.1; omega⟩ (fun n hn => ?_) rfl, ?_⟩
                · subst c5; rfl
                · rcases numsC_mem hn with rfl | rfl | rfl | rfl | rfl | hn
                  · exact zero_ok
                  · exact g2 _ (by simp)
                  · exact zero_ok
                  · exact g2 _ (by simp)
                  · exact g2 _ (by simp)
                  · cases hn
                · subst c5; exact g1
            · rw [if_neg c5] at h ⊢
              have hl : l = [] := by
                apply List.eq_nil_of_length_eq_zero
                have : k = 6 ∨ k = 7 ∨ k = 8 ∨ k = 11 ∨ k = 12 := by omega
                rcases this with rfl | rfl | rfl | rfl | rfl <;> (have h8 : (l.length : Int) + 1 ≤ (1 : Int) := h2; omega)
              refine ⟨rfl, rightC_mk ⟨hs, ?_, Nat.zero_le _, fun hx => by have h9 : k = 9 := hx.1; omega⟩ (fun n hn => ?_) rfl, ?_⟩
              · have : k = 6 ∨ k = 7 ∨ k = 8 ∨ k = 11 ∨ k = 12 := by omega
                rcases this with rfl | rfl | rfl | rfl | rfl <;> rfl
              · rcases numsC_mem hn with rfl | rfl | rfl | rfl | rfl | hn
                · exact zero_ok
                · exact zero_ok
                · exact zero_ok
                · exact zero_ok
                · exact zero_ok
                · cases hn
              · rw [hl]
                have : k = 6 ∨ k = 7 ∨ k = 8 ∨ k = 11 ∨ k = 12 := by omega
                rcases this with rfl | rfl | rfl | rfl | rfl <;> rfl
theorem parseW_cases (w : List (List UInt8)) : ((parseW w).2 ≠ 0 ∧ (parseW w).1 = zeroC 0) ∨ ((parseW w).2 = 0 ∧ rightC (parseW w).1 = true ∧ wC (parseW w).1 = w) := by
  unfold parseW
  split
  · exact .inl ⟨by decide, rfl⟩
  · rename_i hw
    split
    · exact .inl ⟨by decide, rfl⟩
    · rename_i hk
      split
      · exact .inl ⟨by decide, rfl⟩
      · rename_i hl
        split
        · exact .inl ⟨by decide, rfl⟩
        · rename_i hm
          split
          · rename_i hf; exact .inl ⟨hf, rfl⟩
          · rename_i hf
            obtain ⟨g1, g2⟩ := (findK_range (nth w 0)).resolve_left hk
            have e : ((w.drop 1).length : Int) + 1 = (w.length : Int) := by
              have := List.length_pos_iff.2 hw
              rw [List.length_drop]; omega
            obtain ⟨f1, f2, f3⟩ := fill_back g1 (by rw [e]; omega) (by rw [e]; omega) (Classical.not_not.1 hf)
            refine .inr ⟨rfl, f2, ?_⟩
            unfold wC
            rw [f1, g2, f3]
            match w, hw with
            | x :: r, _ => rfl
theorem parse_cases (s : List UInt8) : ((parseR s).2 ≠ 0 ∧ (parseR s).1 = zeroC 0) ∨ ((parseR s).2 = 0 ∧ rightC (parseR s).1 = true ∧ textC (parseR s).1 = s ∧ wC (parseR s).1 = (wordsR s).1) := by
  unfold parseR
  split
  · rename_i h; exact .inl ⟨h, rfl⟩
  · rename_i h
    rcases parseW_cases (wordsR s).1 with g | ⟨g1, g2, g3⟩
    · exact .inl g
    · exact .inr ⟨g1, g2, by rw [textC_join g2, g3]; exact join_words (Classical.not_not.1 h), g3⟩
theorem flat_len1 : ∀ r : List (List UInt8), (∀ x ∈ r, x ≠ []) → 2 * r.length ≤ (r.flatMap fun y => 32 :: y).length
  | [], _ => by simp
  | y :: r, h => by
    have h1 := flat_len1 r fun x hx => h x (List.mem_cons_of_mem _ hx)
    have h2 := List.length_pos_iff.2 (h y (by simp))
    rw [List.flatMap_cons, List.length_append, List.length_cons, List.length_cons]
    omega
theorem parse_small {s : List UInt8} (h : s.length ≤ 2000) : (parseR s).1.order.txs.length ≤ 998 := by
  rcases parse_cases s with ⟨_, g⟩ | ⟨_, g2, g3, g4⟩
  · rw [g]; exact Nat.zero_le _
  · generalize (parseR s).1 = c at g2 g3 g4
    have hj := textC_join g2
    rw [g3] at hj
    unfold wC at hj
    rw [joinL_flat] at hj
    have hl := congrArg List.length hj
    rw [List.length_append] at hl
    have hb := flat_len1 (bodyC c) fun x hx => (body_fine g2 x hx).1
    have hs := List.length_pos_iff.2 (rightC_head g2).1
    have hu := (rightC_head g2).2.1
    by_cases k4 : c.kind = 4
    · have e : (bodyC c).length = c.order.txs.length + 1 := by
        unfold bodyC
        rw [if_neg (by omega), if_neg (by omega), if_pos k4]
        simp
      omega
    · have : c.order = ⟨0, []⟩ := by
        rw [hu]
        unfold usedR
        split
        · rfl
        · split
          · rfl
          · split
            · rfl
            · split <;> rfl
      rw [this]
      exact Nat.zero_le _

end Go.Proofs.YtjdcnjemhjldoaaDoor
