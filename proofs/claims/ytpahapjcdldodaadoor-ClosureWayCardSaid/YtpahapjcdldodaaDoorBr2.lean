/- New, Set. No condition beyond those that each theorem says. -/
import Derived.Test.YtpahapjcdldodaaDoorBr1
namespace Go.Proofs.YtpahapjcdldodaaDoor
open Go Go.Gm
set_option linter.unusedVariables false
set_option linter.unusedSimpArgs false
set_option maxHeartbeats 4000000
set_option maxRecDepth 8000


def rowN (m : Int) : Nat := (if m < 0 then 0 else if m > 65536 then 65536 else m).toNat
theorem rowN_le (m : Int) : rowN m ≤ 65536 := by unfold rowN; split; (· omega); split <;> omega
theorem rowN_eq (m : Int) : (if 65536 < (if m < 0 then 0 else m) then 65536 else if m < 0 then 0 else m) = ((rowN m : Nat) : Int) := by unfold rowN; split <;> split <;> (try split) <;> omega
def zeroW (m : Int) : List Int := List.replicate ((rowN m + 63) / 64) 0
theorem nth_rep (k j : Nat) : Go.Gm.nth (List.replicate k (0 : Int)) j = 0 := by
  by_cases h : j < k
  · rw [nth_eq (by simpa using h)]; simp
  · unfold Go.Gm.nth; rw [List.getD_eq_getElem?_getD, List.getElem?_eq_none (by simp; omega)]; rfl
theorem zeroW_ok (m : Int) : RowOk (rowN m) (zeroW m) := ⟨rowN_le m, by simp [zeroW], fun k => by unfold zeroW; rw [nth_rep]; omega⟩
theorem makeN (m : Int) : (IntKind.wrap .i64 (((rowN m : Nat) : Int) + 63)).fdiv (2 ^ min (6 : Int).toNat (IntKind.bits .i64)) = (((rowN m + 63) / 64 : Nat) : Int) := by
  have := rowN_le m
  rw [shr6, wrap_i64 (by omega)]; omega
theorem zero_pvs (w : World) (yy : Ys) : PVs (rU64 0) [.int .u64 0] w yy := ⟨⟨rfl, rfl, by simp [inR, IntKind.min, IntKind.max, IntKind.signed, IntKind.bits]⟩, trivial⟩
theorem flipW_len (ws : List Int) (j : Nat) : (flipW ws j).length = ws.length := by simp [flipW]
theorem nth_setI {ws : List Int} {i j : Nat} {c : Int} (h : j < ws.length) : Go.Gm.nth (ws.set i c) j = if i = j then c else Go.Gm.nth ws j := by
  rw [nth_eq (by simpa using h), nth_eq h, List.getElem_set]
theorem nth_out {ws : List Int} {j : Nat} (h : ws.length ≤ j) : Go.Gm.nth ws j = 0 := by unfold Go.Gm.nth; rw [List.getD_eq_getElem?_getD, List.getElem?_eq_none h]; rfl
theorem flip_range {x : Int} (h : 0 ≤ x ∧ x < 18446744073709551616) (k : Nat) (hk : k < 64) : 0 ≤ (((x.toNat ^^^ 2 ^ k : Nat)) : Int) ∧ (((x.toNat ^^^ 2 ^ k : Nat)) : Int) < 18446744073709551616 := by
  have h1 : x.toNat < 2 ^ 64 := by omega
  have h2 : 2 ^ k < 2 ^ 64 := Nat.pow_lt_pow_right (by decide) hk
  have := Nat.xor_lt_two_pow h1 h2
  omega
theorem RowOk.flip {n : Nat} {ws : List Int} (h : RowOk n ws) (j : Nat) : RowOk n (flipW ws j) := by
  refine ⟨h.hi, by rw [flipW_len]; exact h.len, fun k => ?_⟩
  by_cases hk : k < ws.length
  · unfold flipW
    rw [nth_setI hk]
    split
    · exact flip_range (h.wd _) _ (Nat.mod_lt _ (by decide))
    · exact h.wd k
  · rw [nth_out (by rw [flipW_len]; omega)]; omega
theorem RowOk.setW {n : Nat} {ws : List Int} (h : RowOk n ws) (i : Int) (on : Bool) : RowOk n (setW n ws i on) := by
  unfold Go.Proofs.YtpahapjcdldodaaDoor.setW
  split
  · exact h.flip _
  · exact h
theorem flip_word {x : Int} (h : 0 ≤ x ∧ x < 18446744073709551616) (i : Int) (hi : 0 ≤ i ∧ i ≤ 9223372036854775807) : bits .xor .u64 x (IntKind.wrap .u64 (1 * 2 ^ min (IntKind.wrap .u64 (bits .and .i64 i 63)).toNat (IntKind.bits .u64))) = ((x.toNat ^^^ 2 ^ (i.toNat % 64) : Nat) : Int) := by
  obtain ⟨X, rfl⟩ := Int.eq_ofNat_of_zero_le h.1
  obtain ⟨I, rfl⟩ := Int.eq_ofNat_of_zero_le hi.1
  rw [and63 _ hi, wrap_u64 (by omega : 0 ≤ ((I : Int) % 64) ∧ (I : Int) % 64 ≤ _), Int.toNat_natCast, Int.toNat_natCast]
  have e1 : min ((I : Int) % 64).toNat (IntKind.bits .u64) = I % 64 := by simp only [IntKind.bits]; omega
  have h2 : 2 ^ (I % 64) < 2 ^ 64 := Nat.pow_lt_pow_right (by decide) (Nat.mod_lt _ (by decide))
  have e2 : (1 : Int) * 2 ^ (I % 64) = ((2 ^ (I % 64) : Nat) : Int) := by rw [Int.one_mul]; norm_cast
  rw [e1, e2]
  generalize 2 ^ (I % 64) = q at h2 ⊢
  rw [wrap_u64 (by omega), xor64 X q (by omega) (by omega)]

theorem rnew_c (m : Int) : FnG Tryd.prog 41 1 [.int .i64 m] [.star []] (PV.ptr) (fun v => [bitsH v (rowN m) (zeroW m)]) := by
  refine FnG.mk Tryd.func41 rfl Tryd.ntmps41 rfl (by kernel_rfl) ?_
  intro B F0 a w F hB hG hS
  have hr := rowN_eq m
  refine wp_seq ?_
  refine region_q hS
    (cF rfl (oN (.c rfl)) trivial trivial
    Chain.nil)
    hB ?_
  clear hS; intro a w F hS
  obtain ⟨F, hS⟩ := hS.nm [2, 0] [1, 0] rfl rfl
  refine then_n (wp_seq ?_)
  refine region_q hS
    (cF rfl (oM .t) r1 trivial
    (cF rfl (o_max .t (.ci (by kernel_rfl))) r1 trivial
    (cF rfl (o_min .t (.ci (by kernel_rfl))) r1 trivial
    (cF rfl (oN .t) r1 trivial
    Chain.nil))))
    hB ?_
  clear hS; intro a w F hS
  obtain ⟨F, hS⟩ := hS.nm [2, 0] [1, 0] rfl rfl
  rw [hr] at hS
  refine then_n (wp_seq ?_)
  refine region_q hS
    (cF rfl (oM .t) r1 trivial
    (cF rfl (oM .t) r1 trivial
    (cF rfl (o_add .t (.ci (by kernel_rfl))) r1 trivial
    (cF rfl (o_shr .t (.ci (by kernel_rfl)) (by decide)) r1 trivial
    (cF rfl (o_makeSlice (R := rU64) (v := 0) (c := (IntKind.wrap .i64 (((rowN m : Nat) : Int) + 63)).fdiv (2 ^ min (6 : Int).toNat (IntKind.bits .i64))) (sz := 1) (bs := 8) (zs := [.int .u64 0]) 101 Tryd.underlying102 (by kernel_rfl) (by kernel_rfl) (by kernel_rfl) zero_pvs .t .t (by rw [makeN]; exact Int.natCast_nonneg _) (by have := rowN_le m; rw [makeN]; omega) (by have := rowN_le m; rw [makeN]; omega)) r2 trivial
    (cF rfl (oB [(0, .tmp 6), (1, .tmp 10)] [.int .i64 0, .slice none 0 0] [(0, 1), (1, 1)] (.one rfl .t one_int (by kernel_rfl) (.same rfl (by kernel_rfl) .nil))) r2 trivial
    (cF rfl (oX 102 .t) r1 trivial
    (cF rfl (oN .t) r1 trivial
    Chain.nil))))))))
    hB ?_
  clear hS; intro a w F hS
  replace hS := hS.sub
  obtain ⟨F, hS⟩ := hS.nm [2] [102, 101, 1, 0] rfl rfl
  try dsimp only [RS.sub, SF.sub, CF.sub, csub, Anc.sub, List.map, stCells, xL, xM, Nat.reduceAdd, xD, xE, xT, xU, xC, xN, zCF] at hS
  generalize Act.tau a 12 = v12 at hS
  generalize Act.tau a 10 = v10 at hS
  rw [makeN, Int.toNat_natCast] at hS
  refine then_n (wp_ret ?_)
  obtain ⟨b, rfl⟩ := hS.shape 102 rfl
  obtain ⟨F, hS⟩ := hS.push 1 101 rfl rfl rfl (by kernel_rfl)
  obtain ⟨F, hS⟩ := hS.push 1 102 rfl rfl rfl (by kernel_rfl)
  have hS := hS.turn 1 rfl (r' := RS.hp (bitsH (.pointer (some ⟨b, 0, none⟩)) (rowN m) (zeroW m))) (fun _ _ _ _ h => ⟨_, zeroW_ok m, h⟩)
  refine ret_N1 (h' := fun v => bitsH v (rowN m) (zeroW m)) hG hS rfl (.tmp rfl .nil) (.one .ptr) rfl

theorem set_c (b n : Nat) (ws : List Int) (i : Int) (on : Bool) : FnG Tryd.prog 46 1 [.is (.pointer (some ⟨b, 0, none⟩)), .int .i64 i, .bool on] [bitsH (.pointer (some ⟨b, 0, none⟩)) n ws] (.bool (setB n ws i on)) (fun _ => [bitsH (.pointer (some ⟨b, 0, none⟩)) n (setW n ws i on)]) := by
  refine FnG.mk Tryd.func46 rfl Tryd.ntmps46 rfl (by kernel_rfl) ?_
  intro B F0 a w F hB hG hS
  obtain ⟨wv, hS⟩ := hS.open_ex 1 rfl
  obtain ⟨hI, hS⟩ := hS.open_and 1 rfl
  obtain ⟨F, hS⟩ := hS.peel 1 2 rfl rfl
  obtain ⟨F, hS⟩ := hS.peel 1 3 rfl rfl
  obtain ⟨F, hS⟩ := hS.nm [2, 1, 0] [3, 2, 0] rfl rfl
  refine wp_seq ?_
  refine region_q hS
    (cF rfl (oN .cb) trivial trivial
    Chain.nil)
    hB ?_
  clear hS; intro a w F hS
  obtain ⟨F, hS⟩ := hS.nm [6, 2, 1, 0] [3, 2, 0] rfl rfl
  refine then_n (wp_seq (wp_seq ?_))
  refine region_q hS
    (cF rfl (oM .t) r1 trivial
    (cF rfl (oM .t) r1 trivial
    (cF rfl (o_callR (cells := [.pv _, .pv _]) 2 (there_c n _ i) (fun _ _ _ _ _ h => h) rfl Tryd.func67 rfl (by kernel_rfl) (ArgsLent.two .is .t)) r2 r1
    (cF rfl (o_not .t) r1 trivial
    (cF rfl (oM .t) r1 trivial
    (Chain.cons (Cert.cond rfl rfl (fun h => o_move .t (by rfl))) r2 trivial
    (Chain.cons (Cert.cond rfl rfl (fun h => o_move .t (by rfl))) r2 trivial
    (Chain.cons (Cert.cond rfl rfl (fun h => o_callRR (cells := [.pv _, .pv (.is wv)]) 2 3 1 (has_c n ws hI i) (fun _ _ _ _ _ h => h) rfl Tryd.func47 rfl (by kernel_rfl) rfl rfl (ArgsLent.two (.w h .is) (.w h)))) r3 r2
    (Chain.cons (Cert.cond rfl rfl (fun h => o_move .t (by rfl))) r2 trivial
    (Chain.cons (Cert.cond rfl rfl (fun h => o_eqlB Tryd.underlying4 (.w h) (.w h))) r3 trivial
    (cF rfl (o_or2 .t .t) r2 trivial
    Chain.nil)))))))))))
    hB ?_
  clear hS; intro a w F hS
  obtain ⟨F, hS⟩ := hS.nm [17, 6, 1, 0] [3, 2, 0] rfl rfl
  refine then_n ?_
  refine cond_b hS rfl (fun hc0 => ?_) (fun hc0 => ?_)
  ·skip
   have hs : setB n ws i on = false := by unfold setB; revert hc0; cases (decide (0 ≤ i) && decide (i < n)) <;> cases hasW n ws i <;> cases on <;> simp
   have hg : setW n ws i on = ws := by unfold setW; rw [hs]; rfl
   refine wp_seq ?_
   refine region_q hS
     (cF rfl (oN .cb) trivial trivial
     Chain.nil)
     hB ?_
   clear hS; intro a w F hS
   obtain ⟨F, hS⟩ := hS.nm [6, 1, 0] [3, 2, 0] rfl rfl
   refine then_n (wp_ret (then_r ?_))
   have hS := hS.fresh 1 rfl
   obtain ⟨F, hS⟩ := hS.push 1 3 rfl rfl rfl (by kernel_rfl)
   obtain ⟨F, hS⟩ := hS.push 1 2 rfl rfl rfl (by kernel_rfl)
   have hS := hS.turn 1 rfl (r' := RS.hp (bitsH (.pointer (some ⟨b, 0, none⟩)) n (setW n ws i on))) (fun _ _ _ _ h => ⟨_, (hI.setW i on), (by rw [hg]; exact h)⟩)
   refine ret_G1 hG hS rfl (.tmp rfl .nil) (.one (.bool hs.symm)) rfl
  have hs : setB n ws i on = true := by unfold setB; revert hc0; cases (decide (0 ≤ i) && decide (i < n)) <;> cases hasW n ws i <;> cases on <;> simp
  have hg : setW n ws i on = flipW ws i.toNat := by unfold setW; rw [hs]; rfl
  have hb : 0 ≤ i ∧ i < n := by
    have hs' := hs
    simp only [setB, Bool.and_eq_true, decide_eq_true_eq] at hs'
    exact hs'.1
  have hhi := hI.hi
  have hq := hI.at i hb.1 hb.2
  rw [← shr6] at hq
  have hq2 : (i.fdiv (2 ^ min (6 : Int).toNat (IntKind.bits .i64))).toNat < ws.length := by omega
  refine wp_skip (then_n (wp_seq ?_))
  refine region_q hS
    (cF rfl (oM .t) r1 trivial
    (cF rfl (o_nilCheck 2 .is (by rfl)) r1 r1
    (cF rfl (oF 1 2 .adr) r1 r1
    (cF rfl (oL false 1 2 .adr) r1 r1
    (cF rfl (oM .t) r1 trivial
    (cF rfl (o_shr .t (.ci (by kernel_rfl)) (by decide)) r1 trivial
    (cF rfl (o_indexAddr_row (sz := 1) 3 (.mk Tryd.underlying102 (by kernel_rfl)) .is .t hq.1 hq.2 (by rfl)) r2 r1
    (cF rfl (o_load_row0 (ag := false) (sz' := 1) (sz := 1) 3 .t (by intro x; rfl) hq2 (by kernel_rfl) (by kernel_rfl) (by kernel_rfl)) r1 r1
    (cF rfl (oM .t) r1 trivial
    (cF rfl (o_and .t (.ci (by kernel_rfl))) r1 trivial
    (cF rfl (o_conv Tryd.underlying103 (by kernel_rfl) .t) r1 trivial
    (cF rfl (o_shl (.ci (by kernel_rfl)) .t (u64_nonneg _)) r1 trivial
    (cF rfl (o_xor .t .t) r2 trivial
    (cF rfl (o_indexAddr_row (sz := 1) 3 (.mk Tryd.underlying102 (by kernel_rfl)) .is .t hq.1 hq.2 (by rfl)) r2 r1
    (cF rfl (o_store_row1 (R := rU64) (sz := 1) (v := _) 3 .t (by intro x; rfl) hq2 .t rfl one_int (by kernel_rfl)) r2 r1
    Chain.nil)))))))))))))))
    hB ?_
  clear hS; intro a w F hS
  obtain ⟨F, hS⟩ := hS.nm [6] [3, 2, 0] rfl rfl
  try dsimp only [List.map, stCells, xL, xM, Nat.reduceAdd, xD, xE, xT, xU, xC, xN, zCF, ldSF] at hS
  rw [flip_word (hI.wd _) i (by omega), shr6, Int.toNat_ediv_64 hb.1] at hS
  refine then_n (wp_seq ?_)
  refine region_q hS
    (cF rfl (oN .cb) trivial trivial
    Chain.nil)
    hB ?_
  clear hS; intro a w F hS
  obtain ⟨F, hS⟩ := hS.nm [6] [3, 2, 0] rfl rfl
  refine then_n (wp_ret ?_)
  have hS := hS.fresh 1 rfl
  obtain ⟨F, hS⟩ := hS.push 1 3 rfl rfl rfl (by kernel_rfl)
  obtain ⟨F, hS⟩ := hS.push 1 2 rfl rfl rfl (by kernel_rfl)
  have hS := hS.turn 1 rfl (r' := RS.hp (bitsH (.pointer (some ⟨b, 0, none⟩)) n (setW n ws i on))) (fun _ _ _ _ h => ⟨_, (hI.setW i on), (by rw [hg]; exact h)⟩)
  refine ret_G1 hG hS rfl (.tmp rfl .nil) (.one (.bool hs.symm)) rfl

end Go.Proofs.YtpahapjcdldodaaDoor
