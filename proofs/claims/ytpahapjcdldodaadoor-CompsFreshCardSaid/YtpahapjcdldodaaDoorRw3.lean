/- The next place. No condition beyond those that each theorem says. -/
import Derived.Test.YtpahapjcdldodaaDoorRwX
namespace Go.Proofs.YtpahapjcdldodaaDoor
open Go Go.Gm
set_option linter.unusedVariables false
set_option linter.unusedSimpArgs false
set_option maxHeartbeats 4000000
set_option maxRecDepth 8000


theorem deBrI_nth {j : Nat} (h : j < 64) : Go.Gm.nth deBrI j = ((Lib.deBruijn64tab.getD j 0 : Nat) : Int) := by
  unfold deBrI
  have hl : j < Lib.deBruijn64tab.length := h
  rw [nth_eq (by rw [List.length_map]; exact hl), List.getElem_map, List.getD_eq_getElem?_getD, List.getElem?_eq_getElem hl]
  rfl
theorem tz_idx {X : Nat} (hx : X < 18446744073709551616) (h0 : X ≠ 0) : ∃ I : Nat, (IntKind.wrap .u64 (bits .and .u64 (X : Int) (IntKind.wrap .u64 (0 - (X : Int))) * 285870213051353865)).fdiv (2 ^ min (58 : Int).toNat (IntKind.bits .u64)) = (I : Int) ∧ I < 64 ∧ IntKind.wrap .i64 (Go.Gm.nth deBrI I) = ((Lib.ctz 64 X : Nat) : Int) := by
  obtain ⟨hlow, hk⟩ := Lib.lowest_bit 64 X h0 hx
  obtain ⟨hi, htab⟩ := Lib.deBruijn64_at _ hk
  have e1 : IntKind.wrap .u64 (0 - (X : Int)) = ((18446744073709551616 - X : Nat) : Int) := by rw [u64_wrap]; omega
  have e2 : (2 ^ 64 - X : Nat) = 18446744073709551616 - X := rfl
  rw [e2] at hlow
  rw [e1, bits_and_nat _ _ hx (by omega), hlow, u64_wrap]
  refine ⟨_, ?_, hi, ?_⟩
  · rw [show min (58 : Int).toNat (IntKind.bits .u64) = 58 from rfl, Int.fdiv_eq_ediv_of_nonneg _ (by decide)]
    generalize 2 ^ Lib.ctz 64 X = p
    omega
  · rw [deBrI_nth hi, htab, wrap_i64 (by omega)]
theorem nextL_eq {i j : Int} : ∀ {x : List Int}, x.Pairwise (· < ·) → j ∈ x → i ≤ j → (∀ k ∈ x, i ≤ k → j ≤ k) → nextL x i = j
  | a :: x, hx, hj, hij, hm => by
    rw [List.pairwise_cons] at hx
    unfold nextL
    rw [List.find?_cons]
    by_cases h : i ≤ a
    · rw [decide_eq_true h]
      have h1 := hm a (by simp) h
      rcases List.mem_cons.1 hj with e | h2
      · simp [e]
      · have := hx.1 j h2; omega
    · rw [decide_eq_false h]
      rcases List.mem_cons.1 hj with e | h2
      · omega
      · exact nextL_eq hx.2 h2 hij fun k hk => hm k (List.mem_cons_of_mem _ hk)
theorem nextL_none {i : Int} {x : List Int} (h : ∀ k ∈ x, ¬ i ≤ k) : nextL x i = -1 := by
  unfold nextL
  rw [List.find?_eq_none.2 (by simpa using h)]
  rfl
theorem next_found {n : Nat} {ws x : List Int} (h : IsSet n ws x) {i : Int} (j : Nat) (h1 : i ≤ j) (h2 : bitAt ws j = true) (h3 : ∀ k : Nat, i ≤ k → k < j → bitAt ws k = false) : nextL x i = j := by
  refine nextL_eq h.up.1 ((h.mem j).1 h2) h1 fun k hk hik => ?_
  have hb := h.up.2 k hk
  obtain ⟨K, rfl⟩ := Int.eq_ofNat_of_zero_le hb.1
  by_cases hlt : K < j
  · have := (h.mem K).2 hk
    rw [h3 K hik hlt] at this
    cases this
  · omega
theorem next_none {n : Nat} {ws x : List Int} (h : IsSet n ws x) {i : Int} (h3 : ∀ k : Nat, i ≤ k → bitAt ws k = false) : nextL x i = -1 := by
  refine nextL_none fun k hk hik => ?_
  have hb := h.up.2 k hk
  obtain ⟨K, rfl⟩ := Int.eq_ofNat_of_zero_le hb.1
  have := (h.mem K).2 hk
  rw [h3 K hik] at this
  cases this
/-- A word's bits from one on. -/
theorem low_off {x : Int} (hx : 0 ≤ x ∧ x < 18446744073709551616) (i : Int) (hi : 0 ≤ i ∧ i ≤ 9223372036854775807) : ∃ X : Nat, IntKind.wrap .u64 (x.fdiv (2 ^ min (IntKind.wrap .u64 (bits .and .i64 i 63)).toNat (IntKind.bits .u64)) * 2 ^ min (IntKind.wrap .u64 (bits .and .i64 i 63)).toNat (IntKind.bits .u64)) = (X : Int) ∧ X < 18446744073709551616 ∧ ∀ t, X.testBit t = (decide (i.toNat % 64 ≤ t) && x.toNat.testBit t) := by
  obtain ⟨A, rfl⟩ := Int.eq_ofNat_of_zero_le hx.1
  obtain ⟨I, rfl⟩ := Int.eq_ofNat_of_zero_le hi.1
  rw [and63 _ hi, wrap_u64 (by omega : 0 ≤ ((I : Int) % 64) ∧ (I : Int) % 64 ≤ _), Int.toNat_natCast, Int.toNat_natCast]
  have e1 : min ((I : Int) % 64).toNat (IntKind.bits .u64) = I % 64 := by simp only [IntKind.bits]; omega
  rw [e1, Int.fdiv_eq_ediv_of_nonneg _ (by exact_mod_cast Nat.zero_le _)]
  have e2 : (A : Int) / 2 ^ (I % 64) * 2 ^ (I % 64) = ((A / 2 ^ (I % 64) * 2 ^ (I % 64) : Nat) : Int) := by norm_cast
  rw [e2]
  have hle : A / 2 ^ (I % 64) * 2 ^ (I % 64) ≤ A := Nat.div_mul_le_self _ _
  refine ⟨A / 2 ^ (I % 64) * 2 ^ (I % 64), wrap_u64 (by omega), by omega, fun t => ?_⟩
  rw [Nat.testBit_mul_two_pow, Nat.testBit_div_two_pow]
  by_cases h : I % 64 ≤ t
  · simp [h]
  · simp [h]
/-- What the search for the next place has found so far. -/
structure NextInv (ws : List Int) (I k X : Nat) : Prop where
  hk : k < ws.length
  hX : X < 18446744073709551616
  bit : ∀ t, t < 64 → X.testBit t = (decide (I ≤ 64 * k + t) && bitAt ws (64 * k + t))
  off : ∀ j, I ≤ j → j < 64 * k → bitAt ws j = false
theorem NextInv.start {n : Nat} {ws : List Int} (h : RowOk n ws) {I X : Nat} (hI : I < n) (hX : X < 18446744073709551616) (hb : ∀ t, X.testBit t = (decide (I % 64 ≤ t) && (Go.Gm.nth ws (I / 64)).toNat.testBit t)) : NextInv ws I (I / 64) X := by
  have := h.len
  refine ⟨by omega, hX, fun t ht => ?_, fun j h1 h2 => by omega⟩
  rw [hb t]
  unfold bitAt
  rw [show (64 * (I / 64) + t) / 64 = I / 64 by omega, show (64 * (I / 64) + t) % 64 = t by omega]
  congr 1
  exact decide_eq_decide.2 (by omega)
theorem NextInv.zero {ws : List Int} {I k : Nat} (h : NextInv ws I k 0) : ∀ j, I ≤ j → j < 64 * (k + 1) → bitAt ws j = false := by
  intro j h1 h2
  by_cases h3 : j < 64 * k
  · exact h.off j h1 h3
  · have := h.bit (j - 64 * k) (by omega)
    rw [show 64 * k + (j - 64 * k) = j by omega, decide_eq_true h1, Bool.true_and, Nat.zero_testBit] at this
    exact this.symm
theorem NextInv.next {n : Nat} {ws : List Int} (hr : RowOk n ws) {I k : Nat} (h : NextInv ws I k 0) (hI : I < 64 * (k + 1)) (hk : k + 1 < ws.length) : NextInv ws I (k + 1) (Go.Gm.nth ws (k + 1)).toNat := by
  have := hr.wd (k + 1)
  refine ⟨hk, by omega, fun t ht => ?_, h.zero⟩
  rw [decide_eq_true (by omega), Bool.true_and]
  unfold bitAt
  rw [show (64 * (k + 1) + t) / 64 = k + 1 by omega, show (64 * (k + 1) + t) % 64 = t by omega]
theorem ctz_bits {X : Nat} (h0 : X ≠ 0) (hx : X < 2 ^ 64) : Lib.ctz 64 X < 64 ∧ X.testBit (Lib.ctz 64 X) = true ∧ ∀ t, t < Lib.ctz 64 X → X.testBit t = false := by
  obtain ⟨m, hm, hk⟩ := Lib.ctzFrom_spec 64 X (by omega) hx
  have e : Lib.ctz 64 X = Lib.ctzFrom 64 X := by simp [Lib.ctz, h0]
  rw [e]
  generalize Lib.ctzFrom 64 X = c at hm hk
  subst hm
  refine ⟨hk, ?_, fun t ht => ?_⟩
  · rw [Nat.mul_comm, Nat.testBit_mul_two_pow]
    simp
  · rw [Nat.mul_comm, Nat.testBit_mul_two_pow]
    simp
    intro; omega
theorem NextInv.found {n : Nat} {ws x : List Int} (hs : IsSet n ws x) {I k X : Nat} {i : Int} (hi : (I : Int) = if i < 0 then 0 else i) (h : NextInv ws I k X) (h0 : X ≠ 0) : nextL x i = 64 * (k : Int) + (Lib.ctz 64 X : Nat) := by
  obtain ⟨h1, h2, h3⟩ := ctz_bits h0 h.hX
  have hb := h.bit _ h1
  rw [h2, eq_comm, Bool.and_eq_true, decide_eq_true_eq] at hb
  have e := next_found hs (i := i) (64 * k + Lib.ctz 64 X) (by split at hi <;> omega) hb.2 fun j hj1 hj2 => by
    have hIj : I ≤ j := by split at hi <;> omega
    by_cases h4 : j < 64 * k
    · exact h.off j hIj h4
    · have := h.bit (j - 64 * k) (by omega)
      rw [h3 _ (by omega), show 64 * k + (j - 64 * k) = j by omega, decide_eq_true hIj, Bool.true_and] at this
      exact this.symm
  rw [e]; omega
theorem NextInv.none {n : Nat} {ws x : List Int} (hs : IsSet n ws x) {I k : Nat} {i : Int} (hi : (I : Int) = if i < 0 then 0 else i) (h : NextInv ws I k 0) (hk : k + 1 = ws.length) : nextL x i = -1 :=
  next_none hs fun j hj => by
    by_cases h4 : j < 64 * (k + 1)
    · exact h.zero j (by split at hi <;> omega) h4
    · exact bitAt_out (by omega)
theorem next_there {n : Nat} {ws x : List Int} (hs : IsSet n ws x) {i : Int} (h : ¬ (if i < 0 then 0 else i) < (n : Int)) : nextL x i = -1 :=
  nextL_none fun k hk hik => by
    have := hs.up.2 k hk
    split at h <;> omega
theorem Up.len {n : Nat} {x : List Int} (h : Up n x) : x.length ≤ n := by
  have : ∀ (x : List Int) (a : Int), x.Pairwise (· < ·) → (∀ i ∈ x, a ≤ i ∧ i < n) → (x.length : Int) ≤ max 0 (n - a) := by
    intro x
    induction x with
    | nil => intro a _ _; simp; omega
    | cons b x ih =>
      intro a hp hb
      rw [List.pairwise_cons] at hp
      have h1 := hb b (by simp)
      have := ih (b + 1) hp.2 fun i hi => ⟨by have := hp.1 i hi; omega, (hb i (by simp [hi])).2⟩
      simp only [List.length_cons]
      omega
  have := this x 0 h.1 h.2
  omega
/-- The place of a list behind which it goes on. -/
def curL (x : List Int) (k : Nat) : Int := if k < x.length then Go.Gm.nth x k else -1
theorem nextL_first {n : Nat} {x : List Int} (h : Up n x) : nextL x 0 = curL x 0 := by
  unfold curL
  match x, h with
  | [], _ => rfl
  | a :: x, h =>
    have := h.2 a (by simp)
    simp [nextL, this.1, Go.Gm.nth]
theorem nextL_step {n : Nat} {x : List Int} (h : Up n x) {k : Nat} (hk : k < x.length) : nextL x (Go.Gm.nth x k + 1) = curL x (k + 1) := by
  have hp := List.pairwise_iff_getElem.1 h.1
  unfold curL
  split
  · rename_i hk1
    refine nextL_eq h.1 (nth_mem hk1) ?_ fun j hj hle => ?_
    · rw [nth_eq hk, nth_eq hk1]
      have := hp k (k + 1) hk hk1 (by omega)
      omega
    · obtain ⟨i, hi, rfl⟩ := List.getElem_of_mem hj
      rw [nth_eq hk] at hle
      rw [nth_eq hk1]
      by_cases e : i = k + 1
      · subst e; exact Int.le_refl _
      · by_cases h2 : k + 1 < i
        · have := hp (k + 1) i hk1 hi h2; omega
        · by_cases e3 : i = k
          · subst e3; omega
          · have := hp i k hi hk (by omega); omega
  · rename_i hk1
    refine nextL_none fun j hj hle => ?_
    obtain ⟨i, hi, rfl⟩ := List.getElem_of_mem hj
    rw [nth_eq hk] at hle
    by_cases e3 : i = k
    · subst e3; omega
    · have := hp i k hi hk (by omega); omega
theorem curL_pos {n : Nat} {x : List Int} (h : Up n x) {k : Nat} : (0 ≤ curL x k ↔ k < x.length) := by
  unfold curL
  split
  · rename_i hk
    have := h.2 _ (nth_mem hk)
    simp [hk, this.1]
  · rename_i hk; simp [hk]
theorem setR_up {n : Nat} {x : List Int} {v : Value} {w : World} {y : Ys} (h : (setR n x).p v w y) : n ≤ 65536 ∧ Up n x := by
  obtain ⟨⟨ws, h, _⟩, _⟩ := h
  exact ⟨h.ok.hi, h.up⟩
theorem Sat.setRup {B : Base} {E : En} {a : Act} {w : World} {F : Fp} {n : Nat} {x : List Int} (h : Sat B E a w F) {i : Nat} (hl : Go.Gm.look E.s i = some (.pv (setR n x))) : n ≤ 65536 ∧ Up n x := setR_up (h.s i _ hl)
theorem Sat.setHup {B : Base} {E : En} {a : Act} {w : World} {F : Fp} {v : Value} {n : Nat} {x : List Int} (h : Sat B E a w F) {i : Nat} (hl : Go.Gm.look E.r i = some (RS.hp (setH v n x))) : n ≤ 65536 ∧ Up n x := setH_up (h.r i _ hl)
theorem tz_c (X : Nat) (hX : X < 18446744073709551616) : FnPg Tryd.prog tabP tabV 85 [.int .u64 (X : Int)] (.int .i64 ((Lib.ctz 64 X : Nat) : Int)) := by
  refine FnPg.mk Tryd.func85 rfl Tryd.ntmps85 rfl ?_
  intro B a w F hB hfr hS
  refine wp_seq ?_
  refine region_q hS
    (cF rfl (oN (.ci (by kernel_rfl))) trivial trivial
    Chain.nil)
    hB ?_
  clear hS; intro a w F hS
  obtain ⟨F, hS⟩ := hS.nm [2, 0] [9, 0] rfl rfl
  refine then_n (wp_seq (wp_seq ?_))
  refine region_q hS
    (cF rfl (oM .t) r1 trivial
    (cF rfl (o_eql .t (.ci (by kernel_rfl))) r1 trivial
    Chain.nil))
    hB ?_
  clear hS; intro a w F hS
  obtain ⟨F, hS⟩ := hS.nm [4, 2, 0] [9, 0] rfl rfl
  refine then_n ?_
  refine cond_b hS rfl (fun hc0 => ?_) (fun hc0 => ?_)
  ·skip
   have hg : (64 : Int) = ((Lib.ctz 64 X : Nat) : Int) := by simp at hc0; subst hc0; rfl
   refine wp_seq ?_
   refine region_q hS
     (cF rfl (oN (.ci (by kernel_rfl))) trivial trivial
     Chain.nil)
     hB ?_
   clear hS; intro a w F hS
   obtain ⟨F, hS⟩ := hS.nm [2, 0] [9, 0] rfl rfl
   refine then_n (wp_ret (then_r ?_))
   refine ret_P hfr hS rfl (.tmp rfl .nil) (.one (.int hg))
  have h0 : X ≠ 0 := by intro e; subst e; simp at hc0
  obtain ⟨I, e1, hI, hg⟩ := tz_idx hX h0
  clear hc0
  refine wp_skip (then_n (wp_seq ?_))
  refine region_q hS
    (cF rfl (oM .t) r1 trivial
    (cF rfl (oM .t) r1 trivial
    (cF rfl (o_neg .t) r1 trivial
    (cF rfl (o_and .t .t) r2 trivial
    (cF rfl (o_mul .t (.ci (by kernel_rfl))) r1 trivial
    (cF rfl (o_shr .t (.ci (by kernel_rfl)) (by decide)) r1 trivial
    (cF rfl (o_index_table (tab := deBrI) (fc := (fun c => PV.int .u8 c)) 9 Tryd.underlying116 (by kernel_rfl) rfl .t (by rw [e1]; exact Int.natCast_nonneg _) (by rw [e1]; exact_mod_cast hI)) r1 r1
    (cF rfl (oR false 1 .t) r1 trivial
    (cF rfl (o_conv Tryd.underlying3 (by kernel_rfl) .t) r1 trivial
    (cF rfl (oN .t) r1 trivial
    Chain.nil))))))))))
    hB ?_
  clear hS; intro a w F hS
  obtain ⟨F, hS⟩ := hS.nm [2] [9, 0] rfl rfl
  try dsimp only [List.map, xD, xE, xT, xU, ldSF] at hS
  try simp only [Int.toNat_natCast] at hS
  rw [e1] at hS
  try simp only [Int.toNat_natCast] at hS
  refine then_n (wp_ret ?_)
  refine ret_P hfr hS rfl (.tmp rfl .nil) (.one (.int hg))

theorem nextW_c (n : Nat) (ws x : List Int) (hs : IsSet n ws x) (i : Int) : FnPg Tryd.prog tabP tabV 72 [.ref [.int .i64 n, .sl rU64 ws], .int .i64 i] (.int .i64 (nextL x i)) := by
  refine FnPg.mk Tryd.func72 rfl Tryd.ntmps72 rfl ?_
  intro B a w F hB hfr hS
  refine wp_seq ?_
  refine region_q hS
    (cF rfl (oN (.ci (by kernel_rfl))) trivial trivial
    Chain.nil)
    hB ?_
  clear hS; intro a w F hS
  obtain ⟨F, hS⟩ := hS.nm [4, 1, 0] [9, 0] rfl rfl
  refine then_n (wp_seq ?_)
  refine region_q hS
    (cF rfl (oM .t) r1 trivial
    (cF rfl (o_max .t (.ci (by kernel_rfl))) r1 trivial
    (cF rfl (oN .t) r1 trivial
    Chain.nil)))
    hB ?_
  clear hS; intro a w F hS
  obtain ⟨F, hS⟩ := hS.nm [4, 1, 0] [9, 0] rfl rfl
  refine then_n (wp_seq (wp_seq ?_))
  refine region_q hS
    (cF rfl (oM .t) r1 trivial
    (cF rfl (oM .t) r1 trivial
    (cF rfl (oP (there_c n _ _) Tryd.func67 (Args.two .t .t)) r2 trivial
    (cF rfl (o_not .t) r1 trivial
    Chain.nil))))
    hB ?_
  clear hS; intro a w F hS
  obtain ⟨F, hS⟩ := hS.nm [12, 4, 1, 0] [9, 0] rfl rfl
  refine then_n ?_
  refine cond_b hS rfl (fun hc0 => ?_) (fun hc0 => ?_)
  ·skip
   have hg : nextL x i = -1 := next_there hs (by intro h; simp at hc0; split at h <;> split at hc0 <;> omega)
   refine wp_seq ?_
   refine region_q hS
     (cF rfl (oN (.ci (by kernel_rfl))) trivial trivial
     Chain.nil)
     hB ?_
   clear hS; intro a w F hS
   obtain ⟨F, hS⟩ := hS.nm [4, 1, 0] [9, 0] rfl rfl
   refine then_n (wp_ret (then_r ?_))
   refine ret_P hfr hS rfl (.tmp rfl .nil) (.one (.int (by first | exact hg.symm | (rw [hg]; done))))
  have hmx : 0 ≤ (if i < 0 then 0 else i) ∧ (if i < 0 then 0 else i) < (n : Int) := by simpa using hc0
  generalize hI0 : (if i < 0 then 0 else i) = i0 at hS hmx
  obtain ⟨I, rfl⟩ := Int.eq_ofNat_of_zero_le hmx.1
  have hIn : I < n := by omega
  have hhi := hs.ok.hi
  have hlen := hs.ok.len
  have e6 : ((I : Int)).fdiv (2 ^ min (6 : Int).toNat (IntKind.bits .i64)) = ((I / 64 : Nat) : Int) := by rw [shr6]; omega
  obtain ⟨X0, ex, hX0, hb0⟩ := low_off (hs.ok.wd (I / 64)) (I : Int) (by omega)
  rw [Int.toNat_natCast] at hb0
  refine wp_skip (then_n (wp_seq ?_))
  refine region_q hS
    (cF rfl (oM .t) r1 trivial
    (cF rfl (o_shr .t (.ci (by kernel_rfl)) (by decide)) r1 trivial
    (cF rfl (oN .t) r1 trivial
    Chain.nil)))
    hB ?_
  clear hS; intro a w F hS
  obtain ⟨F, hS⟩ := hS.nm [5, 4, 1, 0] [9, 0] rfl rfl
  rw [e6] at hS
  refine then_n (wp_seq ?_)
  refine region_q hS
    (cF rfl (oM .t) r1 trivial
    (cF rfl (o_nilCheck_ref .t) r1 trivial
    (cF rfl (oG 1 .t) r1 trivial
    (cF rfl (oR false 1 .t) r1 trivial
    (cF rfl (oM .t) r1 trivial
    (cF rfl (o_indexAddr_sl (sz := 1) (.mk Tryd.underlying102 (by kernel_rfl)) (by intro x; rfl) .t .t (by omega) (by omega)) r2 trivial
    (cF rfl (oR false 1 .t) r1 trivial
    (cF rfl (oM .t) r1 trivial
    (cF rfl (o_and .t (.ci (by kernel_rfl))) r1 trivial
    (cF rfl (o_conv Tryd.underlying103 (by kernel_rfl) .t) r1 trivial
    (cF rfl (o_shr .t .t (u64_nonneg _)) r2 trivial
    (cF rfl (oM .t) r1 trivial
    (cF rfl (o_and .t (.ci (by kernel_rfl))) r1 trivial
    (cF rfl (o_conv Tryd.underlying103 (by kernel_rfl) .t) r1 trivial
    (cF rfl (o_shl .t .t (u64_nonneg _)) r2 trivial
    (cF rfl (oN .t) r1 trivial
    Chain.nil))))))))))))))))
    hB ?_
  clear hS; intro a w F hS
  obtain ⟨F, hS⟩ := hS.nm [6, 5, 4, 0] [9, 0] rfl rfl
  try dsimp only [List.map, xD, xE, xT, xU, ldSF] at hS
  try simp only [Int.toNat_natCast] at hS
  rw [ex] at hS
  refine then_n (wp_seq (wp_block ?_))
  refine loop_keep (σ := Nat × Nat) [0, 4] [0, 9] (fun s => [(5, .pv (.int .i64 (s.1 : Int))), (6, .pv (.int .u64 (s.2 : Int)))]) (fun s => []) (fun s => NextInv ws I s.1 s.2 ∧ I < 64 * (s.1 + 1)) (fun s => ws.length - s.1) ((I / 64), (X0)) hS ⟨rfl, rfl, rfl, rfl, trivial⟩ ⟨rfl, rfl, trivial⟩ ⟨NextInv.start hs.ok hIn hX0 hb0, by omega⟩ ?_
  clear hS; intro s a w F hC hS
  obtain ⟨k, X⟩ := s
  try dsimp only at hC
  obtain ⟨F, hS⟩ := hS.nm [6, 5, 4, 0] [9, 0] rfl rfl
  try dsimp only at hS
  obtain ⟨hq, hIk⟩ := hC
  have hkl := hq.hk
  refine wp_seq (wp_seq ?_)
  refine region_q hS
    (cF rfl (oM .t) r1 trivial
    (cF rfl (o_eql .t (.ci (by kernel_rfl))) r1 trivial
    Chain.nil))
    hB ?_
  clear hS; intro a w F hS
  obtain ⟨F, hS⟩ := hS.nm [31, 30, 6, 5, 4, 0] [9, 0] rfl rfl
  refine then_n ?_
  refine cond_b hS rfl (fun hc1 => ?_) (fun hc1 => ?_)
  ·skip
   have hX : X = 0 := by simpa using hc1
   subst hX
   refine wp_skip (then_n (wp_block (wp_seq ?_)))
   refine region_q hS
     (cF rfl (oM .t) r1 trivial
     (cF rfl (o_add .t (.ci (by kernel_rfl))) r1 trivial
     (cF rfl (oN .t) r1 trivial
     Chain.nil)))
     hB ?_
   clear hS; intro a w F hS
   obtain ⟨F, hS⟩ := hS.nm [33, 32, 31, 30, 6, 5, 4, 0] [9, 0] rfl rfl
   rw [wrap_succ (by omega)] at hS
   refine then_n (wp_seq (wp_seq ?_))
   refine region_q hS
     (cF rfl (oM .t) r1 trivial
     (cF rfl (oM .t) r1 trivial
     (cF rfl (o_nilCheck_ref .t) r1 trivial
     (cF rfl (oG 1 .t) r1 trivial
     (cF rfl (oR false 1 .t) r1 trivial
     (cF rfl (o_len_sl Tryd.underlying102 .t) r1 trivial
     (cF rfl (o_eql .t .t) r2 trivial
     Chain.nil)))))))
     hB ?_
   clear hS; intro a w F hS
   obtain ⟨F, hS⟩ := hS.nm [40, 39, 38, 37, 36, 35, 34, 33, 32, 31, 30, 6, 5, 4, 0] [9, 0] rfl rfl
   try dsimp only [List.map, xD, xE, xT, xU, ldSF] at hS
   refine then_n ?_
   refine cond_b hS rfl (fun hc2 => ?_) (fun hc2 => ?_)
   ·skip
    have hg := hq.none hs hI0.symm (by simp at hc2; omega)
    refine wp_seq ?_
    refine region_q hS
      (cF rfl (oN (.ci (by kernel_rfl))) trivial trivial
      Chain.nil)
      hB ?_
    clear hS; intro a w F hS
    obtain ⟨F, hS⟩ := hS.nm [40, 39, 38, 37, 36, 35, 34, 33, 32, 31, 30, 6, 5, 4, 0] [9, 0] rfl rfl
    refine then_n (wp_ret (then_r (block_r (then_r (block_r (then_r ?_))))))
    refine ret_P hfr hS rfl (.tmp rfl .nil) (.one (.int (by first | exact hg.symm | (rw [hg]; done))))
   have hk1 : k + 1 < ws.length := by simp at hc2; omega
   refine wp_skip (then_n ?_)
   refine region_q hS
     (cF rfl (oM .t) r1 trivial
     (cF rfl (o_nilCheck_ref .t) r1 trivial
     (cF rfl (oG 1 .t) r1 trivial
     (cF rfl (oR false 1 .t) r1 trivial
     (cF rfl (oM .t) r1 trivial
     (cF rfl (o_indexAddr_sl (sz := 1) (.mk Tryd.underlying102 (by kernel_rfl)) (by intro x; rfl) .t .t (by first | assumption | omega) (by first | assumption | omega)) r2 trivial
     (cF rfl (oR false 1 .t) r1 trivial
     (cF rfl (oN .t) r1 trivial
     Chain.nil))))))))
     hB ?_
   clear hS; intro a w F hS
   obtain ⟨F, hS⟩ := hS.nm [47, 46, 45, 44, 43, 42, 41, 40, 39, 38, 37, 36, 35, 34, 33, 32, 31, 30, 6, 5, 4, 0] [9, 0] rfl rfl
   try dsimp only [List.map, xD, xE, xT, xU, ldSF] at hS
   try simp only [Int.toNat_natCast] at hS
   refine block_n (then_n ?_)
   replace hS := hS.ent (i := 6) (s' := .pv (.int .u64 (((Go.Gm.nth ws (k + 1)).toNat : Nat) : Int))) rfl (.int (by have := hs.ok.wd (k + 1); omega))
   obtain ⟨F, hS⟩ := hS.nm [4, 0, 6, 5] [9, 0] rfl rfl
   exact ⟨((k + 1), _), F, ⟨hq.next hs.ok hIk (by omega), by omega⟩, hS, by omega⟩
  have hX : X ≠ 0 := by simpa using hc1
  have hg := hq.found hs hI0.symm hX
  refine wp_exit (then_x (then_x (block_x (then_n (wp_seq ?_)))))
  refine region_q hS
    (cF rfl (oM .t) r1 trivial
    (cF rfl (o_shl .t (.ci (by kernel_rfl)) (by decide)) r1 trivial
    (cF rfl (oM .t) r1 trivial
    (cF rfl (o_callPg 9 (tz_c X hq.hX) Tryd.func85 rfl (by kernel_rfl) (Args.one .t)) r1 r1
    (cF rfl (o_add .t .t) r2 trivial
    (cF rfl (oN .t) r1 trivial
    Chain.nil))))))
    hB ?_
  clear hS; intro a w F hS
  obtain ⟨F, hS⟩ := hS.nm [4] [9, 0] rfl rfl
  rw [show IntKind.wrap .i64 ((k : Int) * 2 ^ min (6 : Int).toNat (IntKind.bits .i64)) = 64 * (k : Int) by rw [wrap_i64 (by simp only [show min (6 : Int).toNat (IntKind.bits .i64) = 6 from rfl]; omega)]; simp only [show min (6 : Int).toNat (IntKind.bits .i64) = 6 from rfl]; omega, wrap_i64 (by have := (ctz_bits hX hq.hX).1; omega), ← hg] at hS
  clear hg
  have hg : nextL x i = nextL x i := rfl
  refine then_n (wp_ret ?_)
  refine ret_P hfr hS rfl (.tmp rfl .nil) (.one (.int (by first | exact hg.symm | (rw [hg]; done))))

theorem next_c (n : Nat) (x : List Int) (i : Int) : FnP Tryd.prog 72 [setR n x, .int .i64 i] (.int .i64 (nextL x i)) := FnP.ofWords fun ws hs => nextW_c n ws x hs i
theorem len_c (n : Nat) (x : List Int) : FnP Tryd.prog 68 [setR n x] (.int .i64 n) := FnP.ofWords fun ws hs => (rlen_c n _).glob
theorem hasS_c (n : Nat) (x : List Int) (i : Int) : FnP Tryd.prog 47 [setR n x, .int .i64 i] (.bool (decide (i ∈ x))) := FnP.ofWords fun ws hs => by rw [← hs.in i]; exact (has_c n ws hs.ok i).glob

end Go.Proofs.YtpahapjcdldodaaDoor
