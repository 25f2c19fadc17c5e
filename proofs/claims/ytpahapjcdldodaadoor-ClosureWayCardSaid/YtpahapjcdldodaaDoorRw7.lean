/- Or, Minus, And. No condition beyond those that each theorem says. -/
import Derived.Test.YtpahapjcdldodaaDoorRw6
namespace Go.Proofs.YtpahapjcdldodaaDoor
open Go Go.Gm
set_option linter.unusedVariables false
set_option linter.unusedSimpArgs false
set_option maxHeartbeats 4000000
set_option maxRecDepth 8000


theorem shl_word {x : Int} (hx : 0 ≤ x ∧ x < 18446744073709551616) (b : Nat) (hb : b < 64) : IntKind.wrap .u64 (x * 2 ^ min b (IntKind.bits .u64)) = ((x.toNat * 2 ^ b % 18446744073709551616 : Nat) : Int) := by
  obtain ⟨X, rfl⟩ := Int.eq_ofNat_of_zero_le hx.1
  rw [Int.toNat_natCast, show min b (IntKind.bits .u64) = b by simp only [IntKind.bits]; omega, u64_wrap]
  have e : (X : Int) * 2 ^ b = ((X * 2 ^ b : Nat) : Int) := by norm_cast
  rw [e]
  generalize X * 2 ^ b = q
  omega
theorem shr_word {x : Int} (hx : 0 ≤ x ∧ x < 18446744073709551616) (b : Nat) (hb : b < 64) : x.fdiv (2 ^ min b (IntKind.bits .u64)) = ((x.toNat / 2 ^ b : Nat) : Int) := by
  obtain ⟨X, rfl⟩ := Int.eq_ofNat_of_zero_le hx.1
  rw [Int.toNat_natCast, show min b (IntKind.bits .u64) = b by simp only [IntKind.bits]; omega, Int.fdiv_eq_ediv_of_nonneg _ (by exact_mod_cast Nat.zero_le _)]
  norm_cast
theorem sub64 {b : Nat} (h : b < 64) : IntKind.wrap .u64 (64 - (b : Int)) = ((64 - b : Nat) : Int) := by rw [wrap_u64 (by omega)]; omega
theorem or_word (x y : Nat) (hx : x < 18446744073709551616) (hy : y < 18446744073709551616) : bits .or .u64 (x : Int) (y : Int) = ((x ||| y : Nat) : Int) := by
  have h1 : (BitVec.ofInt 64 (x : Int)).toNat = x := by rw [BitVec.toNat_ofInt]; omega
  have h2 : (BitVec.ofInt 64 (y : Int)).toNat = y := by rw [BitVec.toNat_ofInt]; omega
  show IntKind.wrap .u64 (((BitVec.ofInt 64 (x : Int) ||| BitVec.ofInt 64 (y : Int)).toNat : Nat) : Int) = _
  rw [BitVec.toNat_or, h1, h2]
  exact wrap_u64 (by have := or_lt hx hy; omega)
theorem up_word1 {n : Nat} {rs : List Int} (h : RowOk n rs) {d b i : Nat} (hb : b < 64) (hi : d ≤ i) (hc : ¬ (0 < b ∧ d < i)) : IntKind.wrap .u64 (Go.Gm.nth rs (i - d) * 2 ^ min b (IntKind.bits .u64)) = upC rs d b i := by
  rw [shl_word (h.wd _) b hb]
  unfold upC
  rw [if_neg (by omega), if_neg hc, Nat.or_zero]
theorem up_word2 {n : Nat} {rs : List Int} (h : RowOk n rs) {d b i : Nat} (hb : b < 64) (hc : 0 < b ∧ d < i) : bits .or .u64 (IntKind.wrap .u64 (Go.Gm.nth rs (i - d) * 2 ^ min b (IntKind.bits .u64))) ((Go.Gm.nth rs (i - d - 1)).fdiv (2 ^ min (IntKind.wrap .u64 (64 - (b : Int))).toNat (IntKind.bits .u64))) = upC rs d b i := by
  have h1 := h.wd (i - d - 1)
  rw [sub64 hb, Int.toNat_natCast, shl_word (h.wd _) b hb, shr_word h1 (64 - b) (by omega), or_word _ _ (Nat.mod_lt _ (by decide)) (by have := Nat.div_le_self (Go.Gm.nth rs (i - d - 1)).toNat (2 ^ (64 - b)); omega)]
  unfold upC
  rw [if_neg (by omega), if_pos hc]
theorem down_word1 {n : Nat} {rs : List Int} (h : RowOk n rs) {d b i : Nat} (hb : b < 64) (hc : ¬ (0 < b ∧ i + d + 1 < rs.length)) : (Go.Gm.nth rs (i + d)).fdiv (2 ^ min b (IntKind.bits .u64)) = downC rs d b i := by
  rw [shr_word (h.wd _) b hb]
  unfold downC
  rw [if_neg hc, Nat.or_zero]
theorem down_word2 {n : Nat} {rs : List Int} (h : RowOk n rs) {d b i : Nat} (hb : b < 64) (hc : 0 < b ∧ i + d + 1 < rs.length) : bits .or .u64 ((Go.Gm.nth rs (i + d)).fdiv (2 ^ min b (IntKind.bits .u64))) (IntKind.wrap .u64 (Go.Gm.nth rs (i + d + 1) * 2 ^ min (IntKind.wrap .u64 (64 - (b : Int))).toNat (IntKind.bits .u64))) = downC rs d b i := by
  have h1 := h.wd (i + d)
  rw [sub64 hb, Int.toNat_natCast, shl_word (h.wd _) (64 - b) (by omega), shr_word h1 b hb, or_word _ _ (by have := Nat.div_le_self (Go.Gm.nth rs (i + d)).toNat (2 ^ b); omega) (Nat.mod_lt _ (by decide))]
  unfold downC
  rw [if_pos hc]
def zerosW (k : Nat) : List Int := List.replicate k 0
def upMid (len : Nat) (f : Nat → Int) (c : Nat) : List Int := zerosW c ++ (mapW len f).drop c
def downMid (len : Nat) (f : Nat → Int) (i : Nat) : List Int := (mapW len f).take i ++ (zerosW len).drop i
theorem upMid_len {len : Nat} {f : Nat → Int} {c : Nat} (h : c ≤ len) : (upMid len f c).length = len := by
  unfold upMid zerosW; rw [List.length_append, List.length_drop, mapW_len, List.length_replicate]; omega
theorem upMid_start (len : Nat) (f : Nat → Int) : upMid len f len = zerosW len := by
  unfold upMid; rw [List.drop_of_length_le (by rw [mapW_len]; omega), List.append_nil]
theorem upMid_step {len : Nat} {f : Nat → Int} {i : Nat} (h : i < len) : (upMid len f (i + 1)).set i (f i) = upMid len f i := by
  unfold upMid zerosW
  rw [List.set_append_left _ _ (by rw [List.length_replicate]; omega)]
  apply List.ext_getElem
  · simp [mapW_len]; omega
  · intro j h1 h2
    simp only [List.getElem_append, List.length_set, List.length_replicate, List.getElem_set, List.getElem_replicate, List.getElem_drop]
    by_cases e : i = j
    · subst e; simp [mapW]
    · by_cases e2 : j < i
      · simp [e, e2, show j < i + 1 by omega]
      · simp only [show ¬ j < i + 1 by omega, dite_false, e2, mapW, List.getElem_map, List.getElem_range]
        congr 1
        omega
theorem upMid_end {len : Nat} {f : Nat → Int} {d : Nat} (hd : d ≤ len) (h : ∀ i, i < d → f i = 0) : upMid len f d = mapW len f := by
  apply List.ext_getElem
  · rw [upMid_len hd, mapW_len]
  · intro j h1 h2
    unfold upMid zerosW
    simp only [List.getElem_append, List.length_replicate, List.getElem_replicate, List.getElem_drop, mapW, List.getElem_map, List.getElem_range]
    by_cases e : j < d
    · simp [e, h j e]
    · simp only [e, dite_false]
      congr 1
      omega
theorem downMid_len {len : Nat} {f : Nat → Int} {i : Nat} (h : i ≤ len) : (downMid len f i).length = len := by
  unfold downMid zerosW; rw [List.length_append, List.length_take, List.length_drop, mapW_len, List.length_replicate]; omega
theorem downMid_step {len : Nat} {f : Nat → Int} {i : Nat} (h : i < len) : (downMid len f i).set i (f i) = downMid len f (i + 1) :=
  set_mid (by simp [mapW_len, zerosW]) (by simpa [zerosW] using h) (nth_mapW h)
theorem downMid_end {len : Nat} {f : Nat → Int} {d : Nat} (hd : d ≤ len) (h : ∀ i, d ≤ i → i < len → f i = 0) : downMid len f d = mapW len f := by
  apply List.ext_getElem
  · rw [downMid_len hd, mapW_len]
  · intro j h1 h2
    rw [mapW_len] at h2
    unfold downMid zerosW
    simp only [List.getElem_append, List.length_take, mapW_len, List.getElem_take, List.getElem_drop, List.getElem_replicate, mapW, List.getElem_map, List.getElem_range, List.length_map, List.length_range]
    by_cases e : j < min d len
    · simp [e]
    · simp only [e, dite_false]
      exact (h j (by omega) h2).symm
theorem upC_low {rs : List Int} {d b i : Nat} (h : i < d) : upC rs d b i = 0 := if_pos h
theorem downC_out {rs : List Int} {d b i : Nat} (h : rs.length ≤ i + d) : downC rs d b i = 0 := by
  unfold downC
  rw [nth_out h, if_neg (by omega)]
  simp
theorem rowN_nat {n : Nat} (h : n ≤ 65536) : rowN (n : Int) = n := by unfold rowN; split; (omega); split <;> omega
theorem IsSet.zeros {n : Nat} {ws : List Int} (h : IsSet n ws []) : ws = zerosW ((n + 63) / 64) := by
  have hz := IsSet.zero (n : Int)
  rw [rowN_nat h.ok.hi] at hz
  have := h.words hz
  rw [this]
  unfold zeroW zerosW
  rw [rowN_nat h.ok.hi]
theorem orL_nil {n : Nat} {x : List Int} (h : Up n x) : orL [] n x = x :=
  up_ext (orL_up ⟨List.Pairwise.nil, by simp⟩ x).1 h.1 fun i => by
    rw [mem_orL ⟨List.Pairwise.nil, by simp⟩]
    constructor
    · rintro (h1 | h1)
      · cases h1
      · exact h1.1
    · intro h1; have := h.2 i h1; exact .inr ⟨h1, this.1, this.2⟩
theorem orL_self {n : Nat} {x : List Int} (h : Up n x) : orL x n x = x :=
  up_ext (orL_up h x).1 h.1 fun i => by
    rw [mem_orL h]
    constructor
    · rintro (h1 | h1)
      · exact h1
      · exact h1.1
    · exact .inl
theorem andL_self (x : List Int) : andL x x = x := by unfold andL; rw [List.filter_eq_self]; intro a h; simpa using h
theorem minusL_self (x : List Int) : minusL x x = [] := by unfold minusL; rw [List.filter_eq_nil_iff]; intro a h; simpa using h

theorem or_rule (p q : Int) : FnP Tryd.prog 70 [.int .u64 p, .int .u64 q] (.int .u64 (bits .or .u64 p q)) := by
  refine FnP.mk Tryd.func70 rfl Tryd.ntmps70 rfl ?_
  intro B a w F hB hfr hS
  refine wp_seq ?_
  refine region_q hS
    (cF rfl (oN (.ci (by kernel_rfl))) trivial trivial
    Chain.nil)
    hB ?_
  clear hS; intro a w F hS
  obtain ⟨F, hS⟩ := hS.nm [4, 1, 0] [0] rfl rfl
  refine then_n (wp_seq ?_)
  refine region_q hS
    (cF rfl (oM .t) r1 trivial
    (cF rfl (oM .t) r1 trivial
    (cF rfl (o_or .t .t) r2 trivial
    (cF rfl (oN .t) r1 trivial
    Chain.nil))))
    hB ?_
  clear hS; intro a w F hS
  obtain ⟨F, hS⟩ := hS.nm [4] [0] rfl rfl
  refine then_n (wp_ret ?_)
  refine ret_P hfr hS rfl (.tmp rfl .nil) (.one .refl)

theorem orW_ref (b n : Nat) (ws : List Int) (m : Nat) (us : List Int) (hu : ∀ k, 0 ≤ Go.Gm.nth us k ∧ Go.Gm.nth us k < 18446744073709551616) : FnG Tryd.prog 49 1 [.is (.pointer (some ⟨b, 0, none⟩)), .ref [.int .i64 m, .sl rU64 us]] [bitsH (.pointer (some ⟨b, 0, none⟩)) n ws] (.bool (!decide (ws = eachW (fun a b => bits .or .u64 a b) n ws us))) (fun _ => [bitsH (.pointer (some ⟨b, 0, none⟩)) n (eachW (fun a b => bits .or .u64 a b) n ws us)]) := by
  refine FnG.mk Tryd.func49 rfl Tryd.ntmps49 rfl (by kernel_rfl) ?_
  intro B F0 a w F hB hG hS
  refine wp_seq ?_
  refine region_q hS
    (cF rfl (oN .cb) trivial trivial
    Chain.nil)
    hB ?_
  clear hS; intro a w F hS
  obtain ⟨F, hS⟩ := hS.nm [4, 1, 0] [1, 0] rfl rfl
  refine then_n (wp_seq ?_)
  refine region_q hS
    (cF rfl (oM .t) r1 trivial
    (cF rfl (oM .t) r1 trivial
    (cF rfl (o_callG1 1 (each_ref bitop_or Tryd.func70 rfl (by kernel_rfl) (fun p q => or_rule p q) b n ws m us hu) Tryd.func69 rfl (by kernel_rfl) (Args.three .t .t .f)) r2 r1
    (cF rfl (oN .t) r1 trivial
    Chain.nil))))
    hB ?_
  clear hS; intro a w F hS
  obtain ⟨F, hS⟩ := hS.nm [4] [1, 0] rfl rfl
  refine then_n (wp_ret ?_)
  refine ret_G1 hG hS rfl (.tmp rfl .nil) (.one (.bool rfl)) rfl

theorem orW_self (b n : Nat) (ws : List Int) : FnG Tryd.prog 49 1 [.is (.pointer (some ⟨b, 0, none⟩)), .is (.pointer (some ⟨b, 0, none⟩))] [bitsH (.pointer (some ⟨b, 0, none⟩)) n ws] (.bool (!decide (ws = eachW (fun a b => bits .or .u64 a b) n ws ws))) (fun _ => [bitsH (.pointer (some ⟨b, 0, none⟩)) n (eachW (fun a b => bits .or .u64 a b) n ws ws)]) := by
  refine FnG.mk Tryd.func49 rfl Tryd.ntmps49 rfl (by kernel_rfl) ?_
  intro B F0 a w F hB hG hS
  refine wp_seq ?_
  refine region_q hS
    (cF rfl (oN .cb) trivial trivial
    Chain.nil)
    hB ?_
  clear hS; intro a w F hS
  obtain ⟨F, hS⟩ := hS.nm [4, 1, 0] [1, 0] rfl rfl
  refine then_n (wp_seq ?_)
  refine region_q hS
    (cF rfl (oM .t) r1 trivial
    (cF rfl (oM .t) r1 trivial
    (cF rfl (o_callG1 1 (each_self bitop_or Tryd.func70 rfl (by kernel_rfl) (fun p q => or_rule p q) b n ws) Tryd.func69 rfl (by kernel_rfl) (Args.three .t .t .f)) r2 r1
    (cF rfl (oN .t) r1 trivial
    Chain.nil))))
    hB ?_
  clear hS; intro a w F hS
  obtain ⟨F, hS⟩ := hS.nm [4] [1, 0] rfl rfl
  refine then_n (wp_ret ?_)
  refine ret_G1 hG hS rfl (.tmp rfl .nil) (.one (.bool rfl)) rfl

theorem orW_nil (b n : Nat) (ws : List Int) : FnG Tryd.prog 49 1 [.is (.pointer (some ⟨b, 0, none⟩)), .is (.pointer none)] [bitsH (.pointer (some ⟨b, 0, none⟩)) n ws] (.bool (!decide (ws = eachW (fun a b => bits .or .u64 a b) n ws []))) (fun _ => [bitsH (.pointer (some ⟨b, 0, none⟩)) n (eachW (fun a b => bits .or .u64 a b) n ws [])]) := by
  refine FnG.mk Tryd.func49 rfl Tryd.ntmps49 rfl (by kernel_rfl) ?_
  intro B F0 a w F hB hG hS
  refine wp_seq ?_
  refine region_q hS
    (cF rfl (oN .cb) trivial trivial
    Chain.nil)
    hB ?_
  clear hS; intro a w F hS
  obtain ⟨F, hS⟩ := hS.nm [4, 1, 0] [1, 0] rfl rfl
  refine then_n (wp_seq ?_)
  refine region_q hS
    (cF rfl (oM .t) r1 trivial
    (cF rfl (oM .t) r1 trivial
    (cF rfl (o_callG1 1 (each_nil bitop_or Tryd.func70 rfl (by kernel_rfl) (fun p q => or_rule p q) b n ws) Tryd.func69 rfl (by kernel_rfl) (Args.three .t .t .f)) r2 r1
    (cF rfl (oN .t) r1 trivial
    Chain.nil))))
    hB ?_
  clear hS; intro a w F hS
  obtain ⟨F, hS⟩ := hS.nm [4] [1, 0] rfl rfl
  refine then_n (wp_ret ?_)
  refine ret_G1 hG hS rfl (.tmp rfl .nil) (.one (.bool rfl)) rfl

theorem or_c (b n : Nat) (x : List Int) (m : Nat) (z : List Int) : FnG Tryd.prog 49 1 [.is (.pointer (some ⟨b, 0, none⟩)), setR m z] [setH (.pointer (some ⟨b, 0, none⟩)) n x] (.bool (!decide (x = orL x n z))) (fun _ => [setH (.pointer (some ⟨b, 0, none⟩)) n (orL x n z)]) := FnG.ofWords2 fun ws us hs ks => ⟨_, hs.or ks, by rw [← hs.same (hs.or ks)]; exact orW_ref b n ws m us ks.ok.wd⟩
theorem or_self (b n : Nat) (x : List Int) : FnG Tryd.prog 49 1 [.is (.pointer (some ⟨b, 0, none⟩)), .is (.pointer (some ⟨b, 0, none⟩))] [setH (.pointer (some ⟨b, 0, none⟩)) n x] (.bool (!decide (x = orL x n x))) (fun _ => [setH (.pointer (some ⟨b, 0, none⟩)) n (orL x n x)]) := FnG.ofWords fun ws hs => ⟨_, hs.or hs, by rw [← hs.same (hs.or hs)]; exact orW_self b n ws⟩

theorem or_nil (b n : Nat) (x : List Int) : FnG Tryd.prog 49 1 [.is (.pointer (some ⟨b, 0, none⟩)), .is (.pointer none)] [setH (.pointer (some ⟨b, 0, none⟩)) n x] (.bool false) (fun _ => [setH (.pointer (some ⟨b, 0, none⟩)) n x]) := FnG.ofWords fun ws hs => ⟨_, hs.or IsSet.none, by have := hs.same (hs.or IsSet.none); rw [show false = !decide (x = orL x n []) by simp [orL], ← this]; exact orW_nil b n ws⟩

theorem and_rule (p q : Int) : FnP Tryd.prog 88 [.int .u64 p, .int .u64 q] (.int .u64 (bits .and .u64 p q)) := by
  refine FnP.mk Tryd.func88 rfl Tryd.ntmps88 rfl ?_
  intro B a w F hB hfr hS
  refine wp_seq ?_
  refine region_q hS
    (cF rfl (oN (.ci (by kernel_rfl))) trivial trivial
    Chain.nil)
    hB ?_
  clear hS; intro a w F hS
  obtain ⟨F, hS⟩ := hS.nm [4, 1, 0] [0] rfl rfl
  refine then_n (wp_seq ?_)
  refine region_q hS
    (cF rfl (oM .t) r1 trivial
    (cF rfl (oM .t) r1 trivial
    (cF rfl (o_and .t .t) r2 trivial
    (cF rfl (oN .t) r1 trivial
    Chain.nil))))
    hB ?_
  clear hS; intro a w F hS
  obtain ⟨F, hS⟩ := hS.nm [4] [0] rfl rfl
  refine then_n (wp_ret ?_)
  refine ret_P hfr hS rfl (.tmp rfl .nil) (.one .refl)

theorem andW_ref (b n : Nat) (ws : List Int) (m : Nat) (us : List Int) (hu : ∀ k, 0 ≤ Go.Gm.nth us k ∧ Go.Gm.nth us k < 18446744073709551616) : FnG Tryd.prog 80 1 [.is (.pointer (some ⟨b, 0, none⟩)), .ref [.int .i64 m, .sl rU64 us]] [bitsH (.pointer (some ⟨b, 0, none⟩)) n ws] (.bool (!decide (ws = eachW (fun a b => bits .and .u64 a b) n ws us))) (fun _ => [bitsH (.pointer (some ⟨b, 0, none⟩)) n (eachW (fun a b => bits .and .u64 a b) n ws us)]) := by
  refine FnG.mk Tryd.func80 rfl Tryd.ntmps80 rfl (by kernel_rfl) ?_
  intro B F0 a w F hB hG hS
  refine wp_seq ?_
  refine region_q hS
    (cF rfl (oN .cb) trivial trivial
    Chain.nil)
    hB ?_
  clear hS; intro a w F hS
  obtain ⟨F, hS⟩ := hS.nm [4, 1, 0] [1, 0] rfl rfl
  refine then_n (wp_seq ?_)
  refine region_q hS
    (cF rfl (oM .t) r1 trivial
    (cF rfl (oM .t) r1 trivial
    (cF rfl (o_callG1 1 (each_ref bitop_and Tryd.func88 rfl (by kernel_rfl) (fun p q => and_rule p q) b n ws m us hu) Tryd.func69 rfl (by kernel_rfl) (Args.three .t .t .f)) r2 r1
    (cF rfl (oN .t) r1 trivial
    Chain.nil))))
    hB ?_
  clear hS; intro a w F hS
  obtain ⟨F, hS⟩ := hS.nm [4] [1, 0] rfl rfl
  refine then_n (wp_ret ?_)
  refine ret_G1 hG hS rfl (.tmp rfl .nil) (.one (.bool rfl)) rfl

theorem andW_self (b n : Nat) (ws : List Int) : FnG Tryd.prog 80 1 [.is (.pointer (some ⟨b, 0, none⟩)), .is (.pointer (some ⟨b, 0, none⟩))] [bitsH (.pointer (some ⟨b, 0, none⟩)) n ws] (.bool (!decide (ws = eachW (fun a b => bits .and .u64 a b) n ws ws))) (fun _ => [bitsH (.pointer (some ⟨b, 0, none⟩)) n (eachW (fun a b => bits .and .u64 a b) n ws ws)]) := by
  refine FnG.mk Tryd.func80 rfl Tryd.ntmps80 rfl (by kernel_rfl) ?_
  intro B F0 a w F hB hG hS
  refine wp_seq ?_
  refine region_q hS
    (cF rfl (oN .cb) trivial trivial
    Chain.nil)
    hB ?_
  clear hS; intro a w F hS
  obtain ⟨F, hS⟩ := hS.nm [4, 1, 0] [1, 0] rfl rfl
  refine then_n (wp_seq ?_)
  refine region_q hS
    (cF rfl (oM .t) r1 trivial
    (cF rfl (oM .t) r1 trivial
    (cF rfl (o_callG1 1 (each_self bitop_and Tryd.func88 rfl (by kernel_rfl) (fun p q => and_rule p q) b n ws) Tryd.func69 rfl (by kernel_rfl) (Args.three .t .t .f)) r2 r1
    (cF rfl (oN .t) r1 trivial
    Chain.nil))))
    hB ?_
  clear hS; intro a w F hS
  obtain ⟨F, hS⟩ := hS.nm [4] [1, 0] rfl rfl
  refine then_n (wp_ret ?_)
  refine ret_G1 hG hS rfl (.tmp rfl .nil) (.one (.bool rfl)) rfl

theorem and_c (b n : Nat) (x : List Int) (m : Nat) (z : List Int) : FnG Tryd.prog 80 1 [.is (.pointer (some ⟨b, 0, none⟩)), setR m z] [setH (.pointer (some ⟨b, 0, none⟩)) n x] (.bool (!decide (x = andL x z))) (fun _ => [setH (.pointer (some ⟨b, 0, none⟩)) n (andL x z)]) := FnG.ofWords2 fun ws us hs ks => ⟨_, hs.and ks, by rw [← hs.same (hs.and ks)]; exact andW_ref b n ws m us ks.ok.wd⟩
theorem and_self (b n : Nat) (x : List Int) : FnG Tryd.prog 80 1 [.is (.pointer (some ⟨b, 0, none⟩)), .is (.pointer (some ⟨b, 0, none⟩))] [setH (.pointer (some ⟨b, 0, none⟩)) n x] (.bool (!decide (x = andL x x))) (fun _ => [setH (.pointer (some ⟨b, 0, none⟩)) n (andL x x)]) := FnG.ofWords fun ws hs => ⟨_, hs.and hs, by rw [← hs.same (hs.and hs)]; exact andW_self b n ws⟩

theorem minus_rule (p q : Int) : FnP Tryd.prog 84 [.int .u64 p, .int .u64 q] (.int .u64 (bits .andNot .u64 p q)) := by
  refine FnP.mk Tryd.func84 rfl Tryd.ntmps84 rfl ?_
  intro B a w F hB hfr hS
  refine wp_seq ?_
  refine region_q hS
    (cF rfl (oN (.ci (by kernel_rfl))) trivial trivial
    Chain.nil)
    hB ?_
  clear hS; intro a w F hS
  obtain ⟨F, hS⟩ := hS.nm [4, 1, 0] [0] rfl rfl
  refine then_n (wp_seq ?_)
  refine region_q hS
    (cF rfl (oM .t) r1 trivial
    (cF rfl (oM .t) r1 trivial
    (cF rfl (o_andnot .t .t) r2 trivial
    (cF rfl (oN .t) r1 trivial
    Chain.nil))))
    hB ?_
  clear hS; intro a w F hS
  obtain ⟨F, hS⟩ := hS.nm [4] [0] rfl rfl
  refine then_n (wp_ret ?_)
  refine ret_P hfr hS rfl (.tmp rfl .nil) (.one .refl)

theorem minusW_ref (b n : Nat) (ws : List Int) (m : Nat) (us : List Int) (hu : ∀ k, 0 ≤ Go.Gm.nth us k ∧ Go.Gm.nth us k < 18446744073709551616) : FnG Tryd.prog 71 1 [.is (.pointer (some ⟨b, 0, none⟩)), .ref [.int .i64 m, .sl rU64 us]] [bitsH (.pointer (some ⟨b, 0, none⟩)) n ws] (.bool (!decide (ws = eachW (fun a b => bits .andNot .u64 a b) n ws us))) (fun _ => [bitsH (.pointer (some ⟨b, 0, none⟩)) n (eachW (fun a b => bits .andNot .u64 a b) n ws us)]) := by
  refine FnG.mk Tryd.func71 rfl Tryd.ntmps71 rfl (by kernel_rfl) ?_
  intro B F0 a w F hB hG hS
  refine wp_seq ?_
  refine region_q hS
    (cF rfl (oN .cb) trivial trivial
    Chain.nil)
    hB ?_
  clear hS; intro a w F hS
  obtain ⟨F, hS⟩ := hS.nm [4, 1, 0] [1, 0] rfl rfl
  refine then_n (wp_seq ?_)
  refine region_q hS
    (cF rfl (oM .t) r1 trivial
    (cF rfl (oM .t) r1 trivial
    (cF rfl (o_callG1 1 (each_ref bitop_andNot Tryd.func84 rfl (by kernel_rfl) (fun p q => minus_rule p q) b n ws m us hu) Tryd.func69 rfl (by kernel_rfl) (Args.three .t .t .f)) r2 r1
    (cF rfl (oN .t) r1 trivial
    Chain.nil))))
    hB ?_
  clear hS; intro a w F hS
  obtain ⟨F, hS⟩ := hS.nm [4] [1, 0] rfl rfl
  refine then_n (wp_ret ?_)
  refine ret_G1 hG hS rfl (.tmp rfl .nil) (.one (.bool rfl)) rfl

theorem minusW_self (b n : Nat) (ws : List Int) : FnG Tryd.prog 71 1 [.is (.pointer (some ⟨b, 0, none⟩)), .is (.pointer (some ⟨b, 0, none⟩))] [bitsH (.pointer (some ⟨b, 0, none⟩)) n ws] (.bool (!decide (ws = eachW (fun a b => bits .andNot .u64 a b) n ws ws))) (fun _ => [bitsH (.pointer (some ⟨b, 0, none⟩)) n (eachW (fun a b => bits .andNot .u64 a b) n ws ws)]) := by
  refine FnG.mk Tryd.func71 rfl Tryd.ntmps71 rfl (by kernel_rfl) ?_
  intro B F0 a w F hB hG hS
  refine wp_seq ?_
  refine region_q hS
    (cF rfl (oN .cb) trivial trivial
    Chain.nil)
    hB ?_
  clear hS; intro a w F hS
  obtain ⟨F, hS⟩ := hS.nm [4, 1, 0] [1, 0] rfl rfl
  refine then_n (wp_seq ?_)
  refine region_q hS
    (cF rfl (oM .t) r1 trivial
    (cF rfl (oM .t) r1 trivial
    (cF rfl (o_callG1 1 (each_self bitop_andNot Tryd.func84 rfl (by kernel_rfl) (fun p q => minus_rule p q) b n ws) Tryd.func69 rfl (by kernel_rfl) (Args.three .t .t .f)) r2 r1
    (cF rfl (oN .t) r1 trivial
    Chain.nil))))
    hB ?_
  clear hS; intro a w F hS
  obtain ⟨F, hS⟩ := hS.nm [4] [1, 0] rfl rfl
  refine then_n (wp_ret ?_)
  refine ret_G1 hG hS rfl (.tmp rfl .nil) (.one (.bool rfl)) rfl

theorem minus_c (b n : Nat) (x : List Int) (m : Nat) (z : List Int) : FnG Tryd.prog 71 1 [.is (.pointer (some ⟨b, 0, none⟩)), setR m z] [setH (.pointer (some ⟨b, 0, none⟩)) n x] (.bool (!decide (x = minusL x z))) (fun _ => [setH (.pointer (some ⟨b, 0, none⟩)) n (minusL x z)]) := FnG.ofWords2 fun ws us hs ks => ⟨_, hs.minus ks, by rw [← hs.same (hs.minus ks)]; exact minusW_ref b n ws m us ks.ok.wd⟩
theorem minus_self (b n : Nat) (x : List Int) : FnG Tryd.prog 71 1 [.is (.pointer (some ⟨b, 0, none⟩)), .is (.pointer (some ⟨b, 0, none⟩))] [setH (.pointer (some ⟨b, 0, none⟩)) n x] (.bool (!decide (x = minusL x x))) (fun _ => [setH (.pointer (some ⟨b, 0, none⟩)) n (minusL x x)]) := FnG.ofWords fun ws hs => ⟨_, hs.minus hs, by rw [← hs.same (hs.minus hs)]; exact minusW_self b n ws⟩

theorem each_rnil (p1 p2 : PV) : FnP Tryd.prog 69 [.is (.pointer none), p1, p2] (.bool false) := by
  refine FnP.mk Tryd.func69 rfl Tryd.ntmps69 rfl ?_
  intro B a w F hB hfr hS
  refine wp_seq ?_
  refine region_q hS
    (cF rfl (oN .cb) trivial trivial
    Chain.nil)
    hB ?_
  clear hS; intro a w F hS
  obtain ⟨F, hS⟩ := hS.nm [6, 2, 1, 0] [0] rfl rfl
  refine then_n (wp_seq (wp_seq ?_))
  refine region_q hS
    (cF rfl (oM .t) r1 trivial
    (cF rfl (o_nil_eql _ Tryd.underlying72 rfl .t) r1 trivial
    Chain.nil))
    hB ?_
  clear hS; intro a w F hS
  obtain ⟨F, hS⟩ := hS.nm [12, 6, 2, 1, 0] [0] rfl rfl
  refine then_n ?_
  refine cond_b hS rfl (fun hc0 => ?_) (fun hc0 => ?_)
  ·skip
   refine wp_seq ?_
   refine region_q hS
     (cF rfl (oN .cb) trivial trivial
     Chain.nil)
     hB ?_
   clear hS; intro a w F hS
   obtain ⟨F, hS⟩ := hS.nm [6, 2, 1, 0] [0] rfl rfl
   refine then_n (wp_ret (then_r ?_))
   refine ret_P hfr hS rfl (.tmp rfl .nil) (.one .refl)
  simp at hc0

theorem or_rnil (v : Value) : FnP Tryd.prog 49 [.is (.pointer none), .is v] (.bool false) := by
  refine FnP.mk Tryd.func49 rfl Tryd.ntmps49 rfl ?_
  intro B a w F hB hfr hS
  refine wp_seq ?_
  refine region_q hS
    (cF rfl (oN .cb) trivial trivial
    Chain.nil)
    hB ?_
  clear hS; intro a w F hS
  obtain ⟨F, hS⟩ := hS.nm [4, 1, 0] [0] rfl rfl
  refine then_n (wp_seq ?_)
  refine region_q hS
    (cF rfl (oM .t) r1 trivial
    (cF rfl (oM .t) r1 trivial
    (cF rfl (oP (each_rnil _ _) Tryd.func69 (Args.three .t .t .f)) r2 trivial
    (cF rfl (oN .t) r1 trivial
    Chain.nil))))
    hB ?_
  clear hS; intro a w F hS
  obtain ⟨F, hS⟩ := hS.nm [4] [0] rfl rfl
  refine then_n (wp_ret ?_)
  refine ret_P hfr hS rfl (.tmp rfl .nil) (.one .refl)

end Go.Proofs.YtpahapjcdldodaaDoor
