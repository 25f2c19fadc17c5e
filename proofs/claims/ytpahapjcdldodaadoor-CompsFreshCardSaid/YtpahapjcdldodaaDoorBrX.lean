/- Br0, Br1, Br2, Br3, in one text. -/
import Derived.Test.YtpahapjcdldodaaDoorBa0
import Derived.Test.YtpahapjcdldodaaDoorLibW
import Derived.Laws.BitsLemmas
namespace Go.Proofs.YtpahapjcdldodaaDoor
open Go Go.Gm
set_option linter.unusedVariables false
set_option linter.unusedSimpArgs false
set_option maxHeartbeats 4000000
set_option maxRecDepth 8000


def rU64 (x : Int) : List PV := [.int .u64 x]
/-- The bit of a place. -/
def bitAt (ws : List Int) (j : Nat) : Bool := (Go.Gm.nth ws (j / 64)).toNat.testBit (j % 64)
def flipW (ws : List Int) (j : Nat) : List Int := ws.set (j / 64) (((Go.Gm.nth ws (j / 64)).toNat ^^^ 2 ^ (j % 64) : Nat) : Int)
def hasW (n : Nat) (ws : List Int) (i : Int) : Bool := (decide (0 ≤ i) && decide (i < n)) && bitAt ws i.toNat
def setB (n : Nat) (ws : List Int) (i : Int) (on : Bool) : Bool := (decide (0 ≤ i) && decide (i < n)) && (hasW n ws i != on)
def setW (n : Nat) (ws : List Int) (i : Int) (on : Bool) : List Int := if setB n ws i on then flipW ws i.toNat else ws
structure RowOk (n : Nat) (ws : List Int) : Prop where
  hi : n ≤ 65536
  len : ws.length = (n + 63) / 64
  wd : ∀ k, 0 ≤ Go.Gm.nth ws k ∧ Go.Gm.nth ws k < 18446744073709551616
def bitParts (v wv : Value) (n : Nat) (ws : List Int) : List RS := [.pt (.val v) 105 [.pv (.int .i64 n), .pv (.is wv)], .ob (.val wv) (rowH 107 1 rU64 ws)]
def bitsH (v : Value) (n : Nat) (ws : List Int) : HP := .ex fun wv : Value => .and (RowOk n ws) (.star (bitParts v wv n ws))
theorem bitsH_ptr {v : Value} {n : Nat} {ws : List Int} {w : World} {f y : Ys} (h : (bitsH v n ws).p w f y) : RowOk n ws ∧ ∃ b, v = .pointer (some ⟨b, 0, none⟩) := by
  obtain ⟨_, hI, h⟩ := h
  exact ⟨hI, HP.star_pt h⟩
theorem shr6 (i : Int) : i.fdiv (2 ^ min (6 : Int).toNat (IntKind.bits .i64)) = i / 64 := Int.fdiv_eq_ediv_of_nonneg i (by decide)
theorem and63 (i : Int) (h : 0 ≤ i ∧ i ≤ 9223372036854775807) : bits .and .i64 i 63 = i % 64 := by
  obtain ⟨X, rfl⟩ := Int.eq_ofNat_of_zero_le h.1
  have h1 : (BitVec.ofInt 64 (X : Int)).toNat = X := by rw [BitVec.toNat_ofInt]; omega
  have h2 : (BitVec.ofInt 64 (63 : Int)).toNat = 2 ^ 6 - 1 := by decide
  show IntKind.wrap .i64 (((BitVec.ofInt 64 (X : Int) &&& BitVec.ofInt 64 63).toNat : Nat) : Int) = _
  rw [BitVec.toNat_and, h1, h2, Nat.and_two_pow_sub_one_eq_mod, wrap_i64 (by omega)]
  omega
theorem and1 (x : Int) (h : 0 ≤ x ∧ x < 18446744073709551616) : bits .and .u64 x 1 = x % 2 := by
  obtain ⟨X, rfl⟩ := Int.eq_ofNat_of_zero_le h.1
  have h1 : (BitVec.ofInt 64 (X : Int)).toNat = X := by rw [BitVec.toNat_ofInt]; omega
  have h2 : (BitVec.ofInt 64 (1 : Int)).toNat = 2 ^ 1 - 1 := by decide
  show IntKind.wrap .u64 (((BitVec.ofInt 64 (X : Int) &&& BitVec.ofInt 64 1).toNat : Nat) : Int) = _
  rw [BitVec.toNat_and, h1, h2, Nat.and_two_pow_sub_one_eq_mod, wrap_u64 (by omega)]
  omega
theorem xor64 (x y : Nat) (hx : x < 18446744073709551616) (hy : y < 18446744073709551616) : bits .xor .u64 (x : Int) (y : Int) = ((x ^^^ y : Nat) : Int) := by
  have h1 : (BitVec.ofInt 64 (x : Int)).toNat = x := by rw [BitVec.toNat_ofInt]; omega
  have h2 : (BitVec.ofInt 64 (y : Int)).toNat = y := by rw [BitVec.toNat_ofInt]; omega
  show IntKind.wrap .u64 (((BitVec.ofInt 64 (x : Int) ^^^ BitVec.ofInt 64 (y : Int)).toNat : Nat) : Int) = _
  rw [BitVec.toNat_xor, h1, h2]
  exact wrap_u64 (by have := Nat.xor_lt_two_pow (n := 64) hx hy; omega)
/-- A word's bit, as the code asks for it. -/
theorem ask_bit {x : Int} (h : 0 ≤ x ∧ x < 18446744073709551616) (i : Int) (hi : 0 ≤ i ∧ i ≤ 9223372036854775807) : decide (bits .and .u64 (x.fdiv (2 ^ min (IntKind.wrap .u64 (bits .and .i64 i 63)).toNat (IntKind.bits .u64))) 1 = 1) = x.toNat.testBit (i.toNat % 64) := by
  obtain ⟨X, rfl⟩ := Int.eq_ofNat_of_zero_le h.1
  obtain ⟨I, rfl⟩ := Int.eq_ofNat_of_zero_le hi.1
  rw [and63 _ hi, wrap_u64 (by omega), Int.toNat_natCast, Int.toNat_natCast]
  have e1 : min ((I : Int) % 64).toNat (IntKind.bits .u64) = I % 64 := by simp only [IntKind.bits]; omega
  rw [e1, Int.fdiv_eq_ediv_of_nonneg _ (by exact_mod_cast Nat.zero_le _)]
  have e2 : (X : Int) / 2 ^ (I % 64) = ((X / 2 ^ (I % 64) : Nat) : Int) := by norm_cast
  have hle : X / 2 ^ (I % 64) ≤ X := Nat.div_le_self _ _
  rw [e2, Nat.testBit_eq_decide_div_mod_eq]
  generalize X / 2 ^ (I % 64) = q at hle ⊢
  rw [and1 _ (by omega)]
  exact decide_eq_decide.2 (by omega)

end Go.Proofs.YtpahapjcdldodaaDoor
namespace Go.Proofs.YtpahapjcdldodaaDoor
open Go Go.Gm
set_option linter.unusedVariables false
set_option linter.unusedSimpArgs false
set_option maxHeartbeats 4000000
set_option maxRecDepth 8000


theorem RowOk.at {n : Nat} {ws : List Int} (h : RowOk n ws) (i : Int) (h0 : 0 ≤ i) (h1 : i < n) : 0 ≤ i / 64 ∧ i / 64 < ws.length := by have := h.len; omega
theorem u64_nonneg (x : Int) : 0 ≤ IntKind.wrap .u64 x := by rw [u64_wrap]; omega
theorem and_iff {a b : Prop} [Decidable a] [Decidable b] (h : (decide a && decide b) = true) : a ∧ b := by simpa using h

theorem rlen_c (n : Nat) (p : PV) : FnP Tryd.prog 68 [.ref [.int .i64 n, p]] (.int .i64 n) := by
  refine FnP.mk Tryd.func68 rfl Tryd.ntmps68 rfl ?_
  intro B a w F hB hfr hS
  refine wp_seq ?_
  refine region_q hS
    (cF rfl (oN (.ci (by kernel_rfl))) trivial trivial
    Chain.nil)
    hB ?_
  clear hS; intro a w F hS
  obtain ⟨F, hS⟩ := hS.nm [2, 0] [0] rfl rfl
  refine then_n (wp_seq (wp_seq ?_))
  refine region_q hS
    (cF rfl (oM .t) r1 trivial
    (cF rfl (o_ref_eql Tryd.underlying72 .t) r1 trivial
    Chain.nil))
    hB ?_
  clear hS; intro a w F hS
  obtain ⟨F, hS⟩ := hS.nm [4, 2, 0] [0] rfl rfl
  refine then_n ?_
  refine cond_b hS rfl (fun hc0 => ?_) (fun hc0 => ?_)
  ·skip
   simp at hc0
  refine wp_skip (then_n (wp_seq ?_))
  refine region_q hS
    (cF rfl (oM .t) r1 trivial
    (cF rfl (o_nilCheck_ref .t) r1 trivial
    (cF rfl (oG 0 .t) r1 trivial
    (cF rfl (oR false 1 .t) r1 trivial
    (cF rfl (oN .t) r1 trivial
    Chain.nil)))))
    hB ?_
  clear hS; intro a w F hS
  obtain ⟨F, hS⟩ := hS.nm [2] [0] rfl rfl
  try dsimp only [List.map, xD, xE, xT, xU, ldSF] at hS
  refine then_n (wp_ret ?_)
  refine ret_P hfr hS rfl (.tmp rfl .nil) (.one .refl)

theorem there_c (n : Nat) (p : PV) (i : Int) : FnP Tryd.prog 67 [.ref [.int .i64 n, p], .int .i64 i] (.bool (decide (0 ≤ i) && decide (i < n))) := by
  refine FnP.mk Tryd.func67 rfl Tryd.ntmps67 rfl ?_
  intro B a w F hB hfr hS
  refine wp_seq ?_
  refine region_q hS
    (cF rfl (oN .cb) trivial trivial
    Chain.nil)
    hB ?_
  clear hS; intro a w F hS
  obtain ⟨F, hS⟩ := hS.nm [4, 1, 0] [0] rfl rfl
  refine then_n (wp_seq ?_)
  refine region_q hS
    (cF rfl (oM .t) r1 trivial
    (cF rfl (o_geq .t (.ci (by kernel_rfl))) r1 trivial
    (cF rfl (oM .t) r1 trivial
    (Chain.cons (Cert.cond rfl rfl (fun h => o_move .t (by rfl))) r2 trivial
    (Chain.cons (Cert.cond rfl rfl (fun h => o_move .t (by rfl))) r2 trivial
    (Chain.cons (Cert.cond rfl rfl (fun h => o_callP (rlen_c n p) Tryd.func68 rfl (by kernel_rfl) (Args.one (.w h)))) r2 trivial
    (Chain.cons (Cert.cond rfl rfl (fun h => o_lss (.w h) (.w h))) r3 trivial
    (cF rfl (o_and2 .t .t) r2 trivial
    (cF rfl (oN .t) r1 trivial
    Chain.nil)))))))))
    hB ?_
  clear hS; intro a w F hS
  obtain ⟨F, hS⟩ := hS.nm [4] [0] rfl rfl
  refine then_n (wp_ret ?_)
  refine ret_P hfr hS rfl (.tmp rfl .nil) (.one .refl)

theorem Int.toNat_ediv_64 {i : Int} (h : 0 ≤ i) : (i / 64).toNat = i.toNat / 64 := by omega
theorem not_and_yes {a b : Prop} [Decidable a] [Decidable b] (h : ¬ (a ∧ b)) : (decide a && decide b) = false := by rw [← Bool.decide_and]; exact decide_eq_false h

theorem has_c (n : Nat) (ws : List Int) (hI : RowOk n ws) (i : Int) : FnP Tryd.prog 47 [.ref [.int .i64 n, .sl rU64 ws], .int .i64 i] (.bool (hasW n ws i)) := by
  refine FnP.mk Tryd.func47 rfl Tryd.ntmps47 rfl ?_
  intro B a w F hB hfr hS
  refine wp_seq ?_
  refine region_q hS
    (cF rfl (oN .cb) trivial trivial
    Chain.nil)
    hB ?_
  clear hS; intro a w F hS
  obtain ⟨F, hS⟩ := hS.nm [4, 1, 0] [0] rfl rfl
  refine then_n (wp_seq ?_)
  refine region_q hS
    (cF rfl (oM .t) r1 trivial
    (cF rfl (oM .t) r1 trivial
    (cF rfl (oP (there_c n _ i) Tryd.func67 (Args.two .t .t)) r2 trivial
    (cF rfl (oM .t) r1 trivial
    (Chain.cons (Cert.cond rfl rfl (fun h => o_move .t (by rfl))) r2 trivial
    (Chain.cons (Cert.cond rfl rfl (fun h => o_nilCheck_ref (.w h))) r2 trivial
    (Chain.cons (Cert.cond rfl rfl (fun h => o_fieldAddr_ref (off := 1) (.w h) (by kernel_rfl))) r2 trivial
    (Chain.cons (Cert.cond rfl rfl (fun h => o_load_ref (ag := false) (sz := 1) (.w h) (by kernel_rfl) (by kernel_rfl) (by kernel_rfl))) r2 trivial
    (Chain.cons (Cert.cond rfl rfl (fun h => o_move .t (by rfl))) r2 trivial
    (Chain.cons (Cert.cond rfl rfl (fun h => o_shr (.w h) (.ci (by kernel_rfl)) (by decide))) r2 trivial
    (Chain.cons (Cert.cond rfl rfl (fun h => o_indexAddr_sl (sz := 1) (.mk Tryd.underlying102 (by kernel_rfl)) (by intro x; rfl) (.w h) (.w h) (by rw [shr6]; exact (hI.at i (and_iff h).1 (and_iff h).2).1) (by rw [shr6]; exact (hI.at i (and_iff h).1 (and_iff h).2).2))) r3 trivial
    (Chain.cons (Cert.cond rfl rfl (fun h => o_load_ref (ag := false) (sz := 1) (.w h) (by kernel_rfl) (by kernel_rfl) (by kernel_rfl))) r2 trivial
    (Chain.cons (Cert.cond rfl rfl (fun h => o_move .t (by rfl))) r2 trivial
    (Chain.cons (Cert.cond rfl rfl (fun h => o_and (.w h) (.ci (by kernel_rfl)))) r2 trivial
    (Chain.cons (Cert.cond rfl rfl (fun h => o_conv Tryd.underlying103 (by kernel_rfl) (.w h))) r2 trivial
    (Chain.cons (Cert.cond rfl rfl (fun h => o_shr (.w h) (.w h) (u64_nonneg _))) r3 trivial
    (Chain.cons (Cert.cond rfl rfl (fun h => o_and (.w h) (.ci (by kernel_rfl)))) r2 trivial
    (Chain.cons (Cert.cond rfl rfl (fun h => o_eql (.w h) (.ci (by kernel_rfl)))) r2 trivial
    (cF rfl (o_and2 .t .t) r2 trivial
    (cF rfl (oN .t) r1 trivial
    Chain.nil))))))))))))))))))))
    hB ?_
  clear hS; intro a w F hS
  obtain ⟨F, hS⟩ := hS.nm [4] [0] rfl rfl
  try dsimp only [List.map, xD, xE, xT, xU, ldSF] at hS
  refine then_n (wp_ret ?_)
  refine ret_P hfr hS rfl (.tmp rfl .nil) (.one (.bool (by unfold hasW bitAt; by_cases hb : 0 ≤ i ∧ i < n; (rw [shr6, ask_bit (hI.wd _) i (by have := hI.hi; omega), Int.toNat_ediv_64 hb.1]); (simp only [not_and_yes hb, Bool.false_and]))))

end Go.Proofs.YtpahapjcdldodaaDoor
namespace Go.Proofs.YtpahapjcdldodaaDoor
open Go Go.Gm
set_option linter.unusedVariables false
set_option linter.unusedSimpArgs false
set_option maxHeartbeats 4000000
set_option maxRecDepth 8000


def rowN (m : Int) : Nat := (if m < 0 then 0 else if m > 65536 then 65536 else m).toNat
theorem rowN_le (m : Int) : rowN m ≤ 65536 := by unfold rowN; split; (· omega); split <;> omega
theorem rowN_eq (m : Int) : (if 65536 < (if m < 0 then 0 else m) then 65536 else if m < 0 then 0 else m) = ((rowN m : Nat) : Int) := by unfold rowN; split <;> split <;> (try split) <;> omega
def zeroW (m : Int) : List Int := List.replicate ((rowN m + 63) / 64) 0
theorem nth_rep (k j : Nat) : Go.Gm.nth (List.replicate k (0 : Int)) j = 0 := by
  by_cases h : j < k
  · rw [nth_eq (by simpa using h)]; simp
  · unfold Go.Gm.nth; rw [List.getD_eq_getElem?_getD, List.getElem?_eq_none (by simp; omega)]; rfl
theorem zeroW_ok (m : Int) : RowOk (rowN m) (zeroW m) := ⟨rowN_le m, by simp [zeroW], fun k => by unfold zeroW; rw [nth_rep]; omega⟩
theorem makeN (m : Int) : (IntKind.wrap .i64 (((rowN m : Nat) : Int) + 63)).fdiv (2 ^ min (6 : Int).toNat (IntKind.bits .i64)) = (((rowN m + 63) / 64 : Nat) : Int) := by
  have := rowN_le m
  rw [shr6, wrap_i64 (by omega)]; omega
theorem zero_pvs (w : World) (yy : Ys) : PVs (rU64 0) [.int .u64 0] w yy := ⟨⟨rfl, rfl, by simp [inR, IntKind.min, IntKind.max, IntKind.signed, IntKind.bits]⟩, trivial⟩
theorem flipW_len (ws : List Int) (j : Nat) : (flipW ws j).length = ws.length := by simp [flipW]
theorem nth_setI {ws : List Int} {i j : Nat} {c : Int} (h : j < ws.length) : Go.Gm.nth (ws.set i c) j = if i = j then c else Go.Gm.nth ws j := by
  rw [nth_eq (by simpa using h), nth_eq h, List.getElem_set]
theorem nth_out {ws : List Int} {j : Nat} (h : ws.length ≤ j) : Go.Gm.nth ws j = 0 := by unfold Go.Gm.nth; rw [List.getD_eq_getElem?_getD, List.getElem?_eq_none h]; rfl
theorem flip_range {x : Int} (h : 0 ≤ x ∧ x < 18446744073709551616) (k : Nat) (hk : k < 64) : 0 ≤ (((x.toNat ^^^ 2 ^ k : Nat)) : Int) ∧ (((x.toNat ^^^ 2 ^ k : Nat)) : Int) < 18446744073709551616 := by
  have h1 : x.toNat < 2 ^ 64 := by omega
  have h2 : 2 ^ k < 2 ^ 64 := Nat.pow_lt_pow_right (by decide) hk
  have := Nat.xor_lt_two_pow h1 h2
  omega
theorem RowOk.flip {n : Nat} {ws : List Int} (h : RowOk n ws) (j : Nat) : RowOk n (flipW ws j) := by
  refine ⟨h.hi, by rw [flipW_len]; exact h.len, fun k => ?_⟩
  by_cases hk : k < ws.length
  · unfold flipW
    rw [nth_setI hk]
    split
    · exact flip_range (h.wd _) _ (Nat.mod_lt _ (by decide))
    · exact h.wd k
  · rw [nth_out (by rw [flipW_len]; omega)]; omega
theorem RowOk.setW {n : Nat} {ws : List Int} (h : RowOk n ws) (i : Int) (on : Bool) : RowOk n (setW n ws i on) := by
  unfold Go.Proofs.YtpahapjcdldodaaDoor.setW
  split
  · exact h.flip _
  · exact h
theorem flip_word {x : Int} (h : 0 ≤ x ∧ x < 18446744073709551616) (i : Int) (hi : 0 ≤ i ∧ i ≤ 9223372036854775807) : bits .xor .u64 x (IntKind.wrap .u64 (1 * 2 ^ min (IntKind.wrap .u64 (bits .and .i64 i 63)).toNat (IntKind.bits .u64))) = ((x.toNat ^^^ 2 ^ (i.toNat % 64) : Nat) : Int) := by
  obtain ⟨X, rfl⟩ := Int.eq_ofNat_of_zero_le h.1
  obtain ⟨I, rfl⟩ := Int.eq_ofNat_of_zero_le hi.1
  rw [and63 _ hi, wrap_u64 (by omega : 0 ≤ ((I : Int) % 64) ∧ (I : Int) % 64 ≤ _), Int.toNat_natCast, Int.toNat_natCast]
  have e1 : min ((I : Int) % 64).toNat (IntKind.bits .u64) = I % 64 := by simp only [IntKind.bits]; omega
  have h2 : 2 ^ (I % 64) < 2 ^ 64 := Nat.pow_lt_pow_right (by decide) (Nat.mod_lt _ (by decide))
  have e2 : (1 : Int) * 2 ^ (I % 64) = ((2 ^ (I % 64) : Nat) : Int) := by rw [Int.one_mul]; norm_cast
  rw [e1, e2]
  generalize 2 ^ (I % 64) = q at h2 ⊢
  rw [wrap_u64 (by omega), xor64 X q (by omega) (by omega)]

theorem rnew_c (m : Int) : FnG Tryd.prog 41 1 [.int .i64 m] [.star []] (PV.ptr) (fun v => [bitsH v (rowN m) (zeroW m)]) := by
  refine FnG.mk Tryd.func41 rfl Tryd.ntmps41 rfl (by kernel_rfl) ?_
  intro B F0 a w F hB hG hS
  have hr := rowN_eq m
  refine wp_seq ?_
  refine region_q hS
    (cF rfl (oN (.c rfl)) trivial trivial
    Chain.nil)
    hB ?_
  clear hS; intro a w F hS
  obtain ⟨F, hS⟩ := hS.nm [2, 0] [1, 0] rfl rfl
  refine then_n (wp_seq ?_)
  refine region_q hS
    (cF rfl (oM .t) r1 trivial
    (cF rfl (o_max .t (.ci (by kernel_rfl))) r1 trivial
    (cF rfl (o_min .t (.ci (by kernel_rfl))) r1 trivial
    (cF rfl (oN .t) r1 trivial
    Chain.nil))))
    hB ?_
  clear hS; intro a w F hS
  obtain ⟨F, hS⟩ := hS.nm [2, 0] [1, 0] rfl rfl
  rw [hr] at hS
  refine then_n (wp_seq ?_)
  refine region_q hS
    (cF rfl (oM .t) r1 trivial
    (cF rfl (oM .t) r1 trivial
    (cF rfl (o_add .t (.ci (by kernel_rfl))) r1 trivial
    (cF rfl (o_shr .t (.ci (by kernel_rfl)) (by decide)) r1 trivial
    (cF rfl (o_makeSlice (R := rU64) (v := 0) (c := (IntKind.wrap .i64 (((rowN m : Nat) : Int) + 63)).fdiv (2 ^ min (6 : Int).toNat (IntKind.bits .i64))) (sz := 1) (bs := 8) (zs := [.int .u64 0]) 101 Tryd.underlying102 (by kernel_rfl) (by kernel_rfl) (by kernel_rfl) zero_pvs .t .t (by rw [makeN]; exact Int.natCast_nonneg _) (by have := rowN_le m; rw [makeN]; omega) (by have := rowN_le m; rw [makeN]; omega)) r2 trivial
    (cF rfl (oB [(0, .tmp 6), (1, .tmp 10)] [.int .i64 0, .slice none 0 0] [(0, 1), (1, 1)] (.one rfl .t one_int (by kernel_rfl) (.same rfl (by kernel_rfl) .nil))) r2 trivial
    (cF rfl (oX 102 .t) r1 trivial
    (cF rfl (oN .t) r1 trivial
    Chain.nil))))))))
    hB ?_
  clear hS; intro a w F hS
  replace hS := hS.sub
  obtain ⟨F, hS⟩ := hS.nm [2] [102, 101, 1, 0] rfl rfl
  try dsimp only [RS.sub, SF.sub, CF.sub, csub, Anc.sub, List.map, stCells, xL, xM, Nat.reduceAdd, xD, xE, xT, xU, xC, xN, zCF] at hS
  generalize Act.tau a 12 = v12 at hS
  generalize Act.tau a 10 = v10 at hS
  rw [makeN, Int.toNat_natCast] at hS
  refine then_n (wp_ret ?_)
  obtain ⟨b, rfl⟩ := hS.shape 102 rfl
  obtain ⟨F, hS⟩ := hS.push 1 101 rfl rfl rfl (by kernel_rfl)
  obtain ⟨F, hS⟩ := hS.push 1 102 rfl rfl rfl (by kernel_rfl)
  have hS := hS.turn 1 rfl (r' := RS.hp (bitsH (.pointer (some ⟨b, 0, none⟩)) (rowN m) (zeroW m))) (fun _ _ _ _ h => ⟨_, zeroW_ok m, h⟩)
  refine ret_N1 (h' := fun v => bitsH v (rowN m) (zeroW m)) hG hS rfl (.tmp rfl .nil) (.one .ptr) rfl

theorem set_c (b n : Nat) (ws : List Int) (i : Int) (on : Bool) : FnG Tryd.prog 46 1 [.is (.pointer (some ⟨b, 0, none⟩)), .int .i64 i, .bool on] [bitsH (.pointer (some ⟨b, 0, none⟩)) n ws] (.bool (setB n ws i on)) (fun _ => [bitsH (.pointer (some ⟨b, 0, none⟩)) n (setW n ws i on)]) := by
  refine FnG.mk Tryd.func46 rfl Tryd.ntmps46 rfl (by kernel_rfl) ?_
  intro B F0 a w F hB hG hS
  obtain ⟨wv, hS⟩ := hS.open_ex 1 rfl
  obtain ⟨hI, hS⟩ := hS.open_and 1 rfl
  obtain ⟨F, hS⟩ := hS.peel 1 2 rfl rfl
  obtain ⟨F, hS⟩ := hS.peel 1 3 rfl rfl
  obtain ⟨F, hS⟩ := hS.nm [2, 1, 0] [3, 2, 0] rfl rfl
  refine wp_seq ?_
  refine region_q hS
    (cF rfl (oN .cb) trivial trivial
    Chain.nil)
    hB ?_
  clear hS; intro a w F hS
  obtain ⟨F, hS⟩ := hS.nm [6, 2, 1, 0] [3, 2, 0] rfl rfl
  refine then_n (wp_seq (wp_seq ?_))
  refine region_q hS
    (cF rfl (oM .t) r1 trivial
    (cF rfl (oM .t) r1 trivial
    (cF rfl (o_callR (cells := [.pv _, .pv _]) 2 (there_c n _ i) (fun _ _ _ _ _ h => h) rfl Tryd.func67 rfl (by kernel_rfl) (ArgsLent.two .is .t)) r2 r1
    (cF rfl (o_not .t) r1 trivial
    (cF rfl (oM .t) r1 trivial
    (Chain.cons (Cert.cond rfl rfl (fun h => o_move .t (by rfl))) r2 trivial
    (Chain.cons (Cert.cond rfl rfl (fun h => o_move .t (by rfl))) r2 trivial
    (Chain.cons (Cert.cond rfl rfl (fun h => o_callRR (cells := [.pv _, .pv (.is wv)]) 2 3 1 (has_c n ws hI i) (fun _ _ _ _ _ h => h) rfl Tryd.func47 rfl (by kernel_rfl) rfl rfl (ArgsLent.two (.w h .is) (.w h)))) r3 r2
    (Chain.cons (Cert.cond rfl rfl (fun h => o_move .t (by rfl))) r2 trivial
    (Chain.cons (Cert.cond rfl rfl (fun h => o_eqlB Tryd.underlying4 (.w h) (.w h))) r3 trivial
    (cF rfl (o_or2 .t .t) r2 trivial
    Chain.nil)))))))))))
    hB ?_
  clear hS; intro a w F hS
  obtain ⟨F, hS⟩ := hS.nm [17, 6, 1, 0] [3, 2, 0] rfl rfl
  refine then_n ?_
  refine cond_b hS rfl (fun hc0 => ?_) (fun hc0 => ?_)
  ·skip
   have hs : setB n ws i on = false := by unfold setB; revert hc0; cases (decide (0 ≤ i) && decide (i < n)) <;> cases hasW n ws i <;> cases on <;> simp
   have hg : setW n ws i on = ws := by unfold setW; rw [hs]; rfl
   refine wp_seq ?_
   refine region_q hS
     (cF rfl (oN .cb) trivial trivial
     Chain.nil)
     hB ?_
   clear hS; intro a w F hS
   obtain ⟨F, hS⟩ := hS.nm [6, 1, 0] [3, 2, 0] rfl rfl
   refine then_n (wp_ret (then_r ?_))
   have hS := hS.fresh 1 rfl
   obtain ⟨F, hS⟩ := hS.push 1 3 rfl rfl rfl (by kernel_rfl)
   obtain ⟨F, hS⟩ := hS.push 1 2 rfl rfl rfl (by kernel_rfl)
   have hS := hS.turn 1 rfl (r' := RS.hp (bitsH (.pointer (some ⟨b, 0, none⟩)) n (setW n ws i on))) (fun _ _ _ _ h => ⟨_, (hI.setW i on), (by rw [hg]; exact h)⟩)
   refine ret_G1 hG hS rfl (.tmp rfl .nil) (.one (.bool hs.symm)) rfl
  have hs : setB n ws i on = true := by unfold setB; revert hc0; cases (decide (0 ≤ i) && decide (i < n)) <;> cases hasW n ws i <;> cases on <;> simp
  have hg : setW n ws i on = flipW ws i.toNat := by unfold setW; rw [hs]; rfl
  have hb : 0 ≤ i ∧ i < n := by
    have hs' := hs
    simp only [setB, Bool.and_eq_true, decide_eq_true_eq] at hs'
    exact hs'.1
  have hhi := hI.hi
  have hq := hI.at i hb.1 hb.2
  rw [← shr6] at hq
  have hq2 : (i.fdiv (2 ^ min (6 : Int).toNat (IntKind.bits .i64))).toNat < ws.length := by omega
  refine wp_skip (then_n (wp_seq ?_))
  refine region_q hS
    (cF rfl (oM .t) r1 trivial
    (cF rfl (o_nilCheck 2 .is (by rfl)) r1 r1
    (cF rfl (oF 1 2 .adr) r1 r1
    (cF rfl (oL false 1 2 .adr) r1 r1
    (cF rfl (oM .t) r1 trivial
    (cF rfl (o_shr .t (.ci (by kernel_rfl)) (by decide)) r1 trivial
    (cF rfl (o_indexAddr_row (sz := 1) 3 (.mk Tryd.underlying102 (by kernel_rfl)) .is .t hq.1 hq.2 (by rfl)) r2 r1
    (cF rfl (o_load_row0 (ag := false) (sz' := 1) (sz := 1) 3 .t (by intro x; rfl) hq2 (by kernel_rfl) (by kernel_rfl) (by kernel_rfl)) r1 r1
    (cF rfl (oM .t) r1 trivial
    (cF rfl (o_and .t (.ci (by kernel_rfl))) r1 trivial
    (cF rfl (o_conv Tryd.underlying103 (by kernel_rfl) .t) r1 trivial
    (cF rfl (o_shl (.ci (by kernel_rfl)) .t (u64_nonneg _)) r1 trivial
    (cF rfl (o_xor .t .t) r2 trivial
    (cF rfl (o_indexAddr_row (sz := 1) 3 (.mk Tryd.underlying102 (by kernel_rfl)) .is .t hq.1 hq.2 (by rfl)) r2 r1
    (cF rfl (o_store_row1 (R := rU64) (sz := 1) (v := _) 3 .t (by intro x; rfl) hq2 .t rfl one_int (by kernel_rfl)) r2 r1
    Chain.nil)))))))))))))))
    hB ?_
  clear hS; intro a w F hS
  obtain ⟨F, hS⟩ := hS.nm [6] [3, 2, 0] rfl rfl
  try dsimp only [List.map, stCells, xL, xM, Nat.reduceAdd, xD, xE, xT, xU, xC, xN, zCF, ldSF] at hS
  rw [flip_word (hI.wd _) i (by omega), shr6, Int.toNat_ediv_64 hb.1] at hS
  refine then_n (wp_seq ?_)
  refine region_q hS
    (cF rfl (oN .cb) trivial trivial
    Chain.nil)
    hB ?_
  clear hS; intro a w F hS
  obtain ⟨F, hS⟩ := hS.nm [6] [3, 2, 0] rfl rfl
  refine then_n (wp_ret ?_)
  have hS := hS.fresh 1 rfl
  obtain ⟨F, hS⟩ := hS.push 1 3 rfl rfl rfl (by kernel_rfl)
  obtain ⟨F, hS⟩ := hS.push 1 2 rfl rfl rfl (by kernel_rfl)
  have hS := hS.turn 1 rfl (r' := RS.hp (bitsH (.pointer (some ⟨b, 0, none⟩)) n (setW n ws i on))) (fun _ _ _ _ h => ⟨_, (hI.setW i on), (by rw [hg]; exact h)⟩)
  refine ret_G1 hG hS rfl (.tmp rfl .nil) (.one (.bool hs.symm)) rfl

end Go.Proofs.YtpahapjcdldodaaDoor
namespace Go.Proofs.YtpahapjcdldodaaDoor
open Go Go.Gm
set_option linter.unusedVariables false
set_option linter.unusedSimpArgs false
set_option maxHeartbeats 4000000
set_option maxRecDepth 8000


def ofW (m : Int) (l : List Int) : List Int := l.foldl (fun ws i => setW (rowN m) ws i true) (zeroW m)
theorem ofW_next (m : Int) {l : List Int} {k : Nat} (h : k < l.length) : setW (rowN m) (ofW m (l.take k)) (Go.Gm.nth l k) true = ofW m (l.take (k + 1)) := by
  unfold ofW
  rw [nth_eq h, List.take_succ_eq_append_getElem h, List.foldl_append]
  rfl
theorem of_c (m : Int) (l : List Int) (hl : l.length ≤ 1000000) : FnG Tryd.prog 79 1 [.int .i64 m, .sl rInt l] [.star []] (PV.ptr) (fun v => [bitsH v (rowN m) (ofW m l)]) := by
  refine FnG.mk Tryd.func79 rfl Tryd.ntmps79 rfl (by kernel_rfl) ?_
  intro B F0 a w F hB hG hS
  refine wp_seq ?_
  refine region_q hS
    (cF rfl (oN (.c rfl)) trivial trivial
    Chain.nil)
    hB ?_
  clear hS; intro a w F hS
  obtain ⟨F, hS⟩ := hS.nm [4, 1, 0] [1, 0] rfl rfl
  refine then_n (wp_seq ?_)
  refine region_q hS
    (cF rfl (oM .t) r1 trivial
    (cF rfl (o_callN 1 (rnew_c m) Tryd.func41 rfl (by kernel_rfl) (Args.one .t) PV.ptr_one) r1 r1
    (cF rfl (oN .t) r1 trivial
    Chain.nil)))
    hB ?_
  clear hS; intro a w F hS
  replace hS := hS.sub
  obtain ⟨F, hS⟩ := hS.nm [5, 4, 1] [1, 0] rfl rfl
  try dsimp only [RS.sub, SF.sub, CF.sub, csub, Anc.sub, List.map] at hS
  generalize Act.tau a 9 = v9 at hS
  obtain ⟨_, _, _, ho⟩ := hS.obGet 1 rfl
  obtain ⟨hI, b, rfl⟩ := bitsH_ptr ho
  clear ho
  replace hS := hS.turn 1 rfl (r' := RS.hp (bitsH (.pointer (some ⟨b, 0, none⟩)) (rowN m) (zeroW m))) (fun _ _ _ _ h => h)
  obtain ⟨F, hS⟩ := hS.nm [5, 4, 1] [1, 0] rfl rfl
  refine then_n (wp_seq (wp_seq ?_))
  refine region_q hS
    (cF rfl (oM .t) r1 trivial
    (cF rfl (o_len_sl Tryd.underlying30 .t) r1 trivial
    (cF rfl (oM (.ci (by kernel_rfl))) trivial trivial
    Chain.nil)))
    hB ?_
  clear hS; intro a w F hS
  obtain ⟨F, hS⟩ := hS.nm [12, 11, 10, 5, 4] [1, 0] rfl rfl
  refine then_n (wp_block ?_)
  obtain ⟨F, hS⟩ := hS.nm [12, 11, 10, 5] [1, 0] rfl rfl
  refine loop_inv (σ := Nat) (fun s => (⟨[(5, .pv (.is (.pointer (some ⟨b, 0, none⟩)))), (10, .pv (.sl rInt l)), (11, .pv (.int .i64 l.length)), (12, .pv (.int .i64 s))], [(0, frame B), (1, RS.hp (bitsH (.pointer (some ⟨b, 0, none⟩)) (rowN m) (ofW m (l.take s))))]⟩ : En)) (fun s => s ≤ l.length) (fun s => l.length - s) 0 hS (Nat.zero_le _) ?_
  clear hS; intro k a w F hC hS
  try dsimp only at hC
  try dsimp only at hS
  have hk : k ≤ l.length := hC
  refine wp_seq ?_
  refine region_q hS
    (cF rfl (o_lss .t .t) r2 trivial
    Chain.nil)
    hB ?_
  clear hS; intro a w F hS
  obtain ⟨F, hS⟩ := hS.nm [13, 12, 11, 10, 5] [1, 0] rfl rfl
  refine then_n (wp_seq ?_)
  refine cond_b hS rfl (fun hc0 => ?_) (fun hc0 => ?_)
  ·skip
   have hkl : k < l.length := by simp at hc0; omega
   refine wp_skip (then_n (wp_seq (wp_block (wp_seq ?_))))
   refine region_q hS
     (cF rfl (o_indexAddr_sl (sz := 1) (.mk Tryd.underlying30 (by kernel_rfl)) (by intro x; rfl) .t .t (by omega) (by omega)) r2 trivial
     (cF rfl (oR false 1 .t) r1 trivial
     (cF rfl (oN .t) r1 trivial
     Chain.nil)))
     hB ?_
   clear hS; intro a w F hS
   obtain ⟨F, hS⟩ := hS.nm [15, 14, 13, 12, 11, 10, 7, 5] [1, 0] rfl rfl
   try dsimp only [List.map, xD, xE, xT, xU, ldSF] at hS
   rw [Int.toNat_natCast] at hS
   refine then_n ?_
   refine region_q hS
     (cF rfl (oM .t) r1 trivial
     (cF rfl (oM .t) r1 trivial
     (cF rfl (o_callG1 1 (set_c b (rowN m) (ofW m (l.take k)) (Go.Gm.nth l k) true) Tryd.func46 rfl (by kernel_rfl) (Args.three .t .t .cb)) r2 r1
     Chain.nil)))
     hB ?_
   clear hS; intro a w F hS
   obtain ⟨F, hS⟩ := hS.nm [17, 16, 15, 14, 13, 12, 11, 10, 7, 5] [1, 0] rfl rfl
   refine block_n (then_n ?_)
   refine region_q hS
     (cF rfl (o_add .t (.ci (by kernel_rfl))) r1 trivial
     (cF rfl (oM .t) r1 trivial
     Chain.nil))
     hB ?_
   clear hS; intro a w F hS
   obtain ⟨F, hS⟩ := hS.nm [19, 17, 16, 15, 14, 13, 12, 11, 10, 7, 5] [1, 0] rfl rfl
   refine then_n ?_
   rw [ofW_next m hkl] at hS
   replace hS := hS.ent (i := 12) (s' := .pv (.int .i64 ((k + 1 : Nat) : Int))) rfl (.int (wrap_succ (by omega)))
   obtain ⟨F, hS⟩ := hS.nm [12, 11, 10, 5] [1, 0] rfl rfl
   exact ⟨k + 1, F, by omega, hS, by omega⟩
  have hkl : k = l.length := by simp at hc0; omega
  rw [hkl, List.take_length] at hS
  refine wp_exit (then_x (then_x (block_x (then_n (wp_seq ?_)))))
  refine region_q hS
    (cF rfl (oM .t) r1 trivial
    (cF rfl (oN .t) r1 trivial
    Chain.nil))
    hB ?_
  clear hS; intro a w F hS
  obtain ⟨F, hS⟩ := hS.nm [4] [1, 0] rfl rfl
  refine then_n (wp_ret ?_)
  refine ret_N1 (h' := fun v => bitsH v (rowN m) (ofW m l)) hG hS rfl (.tmp rfl .nil) (.one .ptr) rfl

def shrF (x : Int) (k : Int) : Int := x.fdiv (2 ^ min k.toNat (IntKind.bits .u64))
def ones1 (x : Int) : Int := IntKind.wrap .u64 (bits .and .u64 (shrF x 1) 6148914691236517205 + bits .and .u64 x 6148914691236517205)
def ones2 (x : Int) : Int := IntKind.wrap .u64 (bits .and .u64 (shrF x 2) 3689348814741910323 + bits .and .u64 x 3689348814741910323)
def ones3 (x : Int) : Int := bits .and .u64 (IntKind.wrap .u64 (shrF x 4 + x)) 1085102592571150095
def ones4 (x : Int) (k : Int) : Int := IntKind.wrap .u64 (x + shrF x k)
def onesF (x : Int) : Int := bits .and .i64 (IntKind.wrap .i64 (ones4 (ones4 (ones4 (ones3 (ones2 (ones1 x))) 8) 16) 32)) 127

def cntW (ws : List Int) : Int := ws.foldl (fun s x => s + onesF x) 0
end Go.Proofs.YtpahapjcdldodaaDoor
