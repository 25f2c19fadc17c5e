/- Rw7, Rw8, Rw9, Rw10, Rw11, in one text. -/
import Derived.Test.YtpahapjcdldodaaDoorRw6
namespace Go.Proofs.YtpahapjcdldodaaDoor
open Go Go.Gm
set_option linter.unusedVariables false
set_option linter.unusedSimpArgs false
set_option maxHeartbeats 4000000
set_option maxRecDepth 8000


def zerosW (k : Nat) : List Int := List.replicate k 0
theorem rowN_nat {n : Nat} (h : n ≤ 65536) : rowN (n : Int) = n := by unfold rowN; split; (omega); split <;> omega
theorem IsSet.zeros {n : Nat} {ws : List Int} (h : IsSet n ws []) : ws = zerosW ((n + 63) / 64) := by
  have hz := IsSet.zero (n : Int)
  rw [rowN_nat h.ok.hi] at hz
  have := h.words hz
  rw [this]
  unfold zeroW zerosW
  rw [rowN_nat h.ok.hi]
theorem orL_nil {n : Nat} {x : List Int} (h : Up n x) : orL [] n x = x :=
  up_ext (orL_up ⟨List.Pairwise.nil, by simp⟩ x).1 h.1 fun i => by
    rw [mem_orL ⟨List.Pairwise.nil, by simp⟩]
    constructor
    · rintro (h1 | h1)
      · cases h1
      · exact h1.1
    · intro h1; have := h.2 i h1; exact .inr ⟨h1, this.1, this.2⟩
theorem or_rule (p q : Int) : FnP Tryd.prog 70 [.int .u64 p, .int .u64 q] (.int .u64 (bits .or .u64 p q)) := by
  refine FnP.mk Tryd.func70 rfl Tryd.ntmps70 rfl ?_
  intro B a w F hB hfr hS
  refine wp_seq ?_
  refine region_q hS
    (cF rfl (oN (.ci (by kernel_rfl))) trivial trivial
    Chain.nil)
    hB ?_
  clear hS; intro a w F hS
  obtain ⟨F, hS⟩ := hS.nm [4, 1, 0] [0] rfl rfl
  refine then_n (wp_seq ?_)
  refine region_q hS
    (cF rfl (oM .t) r1 trivial
    (cF rfl (oM .t) r1 trivial
    (cF rfl (o_or .t .t) r2 trivial
    (cF rfl (oN .t) r1 trivial
    Chain.nil))))
    hB ?_
  clear hS; intro a w F hS
  obtain ⟨F, hS⟩ := hS.nm [4] [0] rfl rfl
  refine then_n (wp_ret ?_)
  refine ret_P hfr hS rfl (.tmp rfl .nil) (.one .refl)

theorem orW_ref (b n : Nat) (ws : List Int) (m : Nat) (us : List Int) (hu : ∀ k, 0 ≤ Go.Gm.nth us k ∧ Go.Gm.nth us k < 18446744073709551616) : FnG Tryd.prog 49 1 [.is (.pointer (some ⟨b, 0, none⟩)), .ref [.int .i64 m, .sl rU64 us]] [bitsH (.pointer (some ⟨b, 0, none⟩)) n ws] (.bool (!decide (ws = eachW (fun a b => bits .or .u64 a b) n ws us))) (fun _ => [bitsH (.pointer (some ⟨b, 0, none⟩)) n (eachW (fun a b => bits .or .u64 a b) n ws us)]) := by
  refine FnG.mk Tryd.func49 rfl Tryd.ntmps49 rfl (by kernel_rfl) ?_
  intro B F0 a w F hB hG hS
  refine wp_seq ?_
  refine region_q hS
    (cF rfl (oN .cb) trivial trivial
    Chain.nil)
    hB ?_
  clear hS; intro a w F hS
  obtain ⟨F, hS⟩ := hS.nm [4, 1, 0] [1, 0] rfl rfl
  refine then_n (wp_seq ?_)
  refine region_q hS
    (cF rfl (oM .t) r1 trivial
    (cF rfl (oM .t) r1 trivial
    (cF rfl (o_callG1 1 (each_ref bitop_or Tryd.func70 rfl (by kernel_rfl) (fun p q => or_rule p q) b n ws m us hu) Tryd.func69 rfl (by kernel_rfl) (Args.three .t .t .f)) r2 r1
    (cF rfl (oN .t) r1 trivial
    Chain.nil))))
    hB ?_
  clear hS; intro a w F hS
  obtain ⟨F, hS⟩ := hS.nm [4] [1, 0] rfl rfl
  refine then_n (wp_ret ?_)
  refine ret_G1 hG hS rfl (.tmp rfl .nil) (.one (.bool rfl)) rfl

theorem or_c (b n : Nat) (x : List Int) (m : Nat) (z : List Int) : FnG Tryd.prog 49 1 [.is (.pointer (some ⟨b, 0, none⟩)), setR m z] [setH (.pointer (some ⟨b, 0, none⟩)) n x] (.bool (!decide (x = orL x n z))) (fun _ => [setH (.pointer (some ⟨b, 0, none⟩)) n (orL x n z)]) := FnG.ofWords2 fun ws us hs ks => ⟨_, hs.or ks, by rw [← hs.same (hs.or ks)]; exact orW_ref b n ws m us ks.ok.wd⟩
theorem and_rule (p q : Int) : FnP Tryd.prog 88 [.int .u64 p, .int .u64 q] (.int .u64 (bits .and .u64 p q)) := by
  refine FnP.mk Tryd.func88 rfl Tryd.ntmps88 rfl ?_
  intro B a w F hB hfr hS
  refine wp_seq ?_
  refine region_q hS
    (cF rfl (oN (.ci (by kernel_rfl))) trivial trivial
    Chain.nil)
    hB ?_
  clear hS; intro a w F hS
  obtain ⟨F, hS⟩ := hS.nm [4, 1, 0] [0] rfl rfl
  refine then_n (wp_seq ?_)
  refine region_q hS
    (cF rfl (oM .t) r1 trivial
    (cF rfl (oM .t) r1 trivial
    (cF rfl (o_and .t .t) r2 trivial
    (cF rfl (oN .t) r1 trivial
    Chain.nil))))
    hB ?_
  clear hS; intro a w F hS
  obtain ⟨F, hS⟩ := hS.nm [4] [0] rfl rfl
  refine then_n (wp_ret ?_)
  refine ret_P hfr hS rfl (.tmp rfl .nil) (.one .refl)

theorem andW_ref (b n : Nat) (ws : List Int) (m : Nat) (us : List Int) (hu : ∀ k, 0 ≤ Go.Gm.nth us k ∧ Go.Gm.nth us k < 18446744073709551616) : FnG Tryd.prog 80 1 [.is (.pointer (some ⟨b, 0, none⟩)), .ref [.int .i64 m, .sl rU64 us]] [bitsH (.pointer (some ⟨b, 0, none⟩)) n ws] (.bool (!decide (ws = eachW (fun a b => bits .and .u64 a b) n ws us))) (fun _ => [bitsH (.pointer (some ⟨b, 0, none⟩)) n (eachW (fun a b => bits .and .u64 a b) n ws us)]) := by
  refine FnG.mk Tryd.func80 rfl Tryd.ntmps80 rfl (by kernel_rfl) ?_
  intro B F0 a w F hB hG hS
  refine wp_seq ?_
  refine region_q hS
    (cF rfl (oN .cb) trivial trivial
    Chain.nil)
    hB ?_
  clear hS; intro a w F hS
  obtain ⟨F, hS⟩ := hS.nm [4, 1, 0] [1, 0] rfl rfl
  refine then_n (wp_seq ?_)
  refine region_q hS
    (cF rfl (oM .t) r1 trivial
    (cF rfl (oM .t) r1 trivial
    (cF rfl (o_callG1 1 (each_ref bitop_and Tryd.func88 rfl (by kernel_rfl) (fun p q => and_rule p q) b n ws m us hu) Tryd.func69 rfl (by kernel_rfl) (Args.three .t .t .f)) r2 r1
    (cF rfl (oN .t) r1 trivial
    Chain.nil))))
    hB ?_
  clear hS; intro a w F hS
  obtain ⟨F, hS⟩ := hS.nm [4] [1, 0] rfl rfl
  refine then_n (wp_ret ?_)
  refine ret_G1 hG hS rfl (.tmp rfl .nil) (.one (.bool rfl)) rfl

theorem andW_self (b n : Nat) (ws : List Int) : FnG Tryd.prog 80 1 [.is (.pointer (some ⟨b, 0, none⟩)), .is (.pointer (some ⟨b, 0, none⟩))] [bitsH (.pointer (some ⟨b, 0, none⟩)) n ws] (.bool (!decide (ws = eachW (fun a b => bits .and .u64 a b) n ws ws))) (fun _ => [bitsH (.pointer (some ⟨b, 0, none⟩)) n (eachW (fun a b => bits .and .u64 a b) n ws ws)]) := by
  refine FnG.mk Tryd.func80 rfl Tryd.ntmps80 rfl (by kernel_rfl) ?_
  intro B F0 a w F hB hG hS
  refine wp_seq ?_
  refine region_q hS
    (cF rfl (oN .cb) trivial trivial
    Chain.nil)
    hB ?_
  clear hS; intro a w F hS
  obtain ⟨F, hS⟩ := hS.nm [4, 1, 0] [1, 0] rfl rfl
  refine then_n (wp_seq ?_)
  refine region_q hS
    (cF rfl (oM .t) r1 trivial
    (cF rfl (oM .t) r1 trivial
    (cF rfl (o_callG1 1 (each_self bitop_and Tryd.func88 rfl (by kernel_rfl) (fun p q => and_rule p q) b n ws) Tryd.func69 rfl (by kernel_rfl) (Args.three .t .t .f)) r2 r1
    (cF rfl (oN .t) r1 trivial
    Chain.nil))))
    hB ?_
  clear hS; intro a w F hS
  obtain ⟨F, hS⟩ := hS.nm [4] [1, 0] rfl rfl
  refine then_n (wp_ret ?_)
  refine ret_G1 hG hS rfl (.tmp rfl .nil) (.one (.bool rfl)) rfl

theorem and_c (b n : Nat) (x : List Int) (m : Nat) (z : List Int) : FnG Tryd.prog 80 1 [.is (.pointer (some ⟨b, 0, none⟩)), setR m z] [setH (.pointer (some ⟨b, 0, none⟩)) n x] (.bool (!decide (x = andL x z))) (fun _ => [setH (.pointer (some ⟨b, 0, none⟩)) n (andL x z)]) := FnG.ofWords2 fun ws us hs ks => ⟨_, hs.and ks, by rw [← hs.same (hs.and ks)]; exact andW_ref b n ws m us ks.ok.wd⟩
theorem and_self (b n : Nat) (x : List Int) : FnG Tryd.prog 80 1 [.is (.pointer (some ⟨b, 0, none⟩)), .is (.pointer (some ⟨b, 0, none⟩))] [setH (.pointer (some ⟨b, 0, none⟩)) n x] (.bool (!decide (x = andL x x))) (fun _ => [setH (.pointer (some ⟨b, 0, none⟩)) n (andL x x)]) := FnG.ofWords fun ws hs => ⟨_, hs.and hs, by rw [← hs.same (hs.and hs)]; exact andW_self b n ws⟩

theorem minus_rule (p q : Int) : FnP Tryd.prog 84 [.int .u64 p, .int .u64 q] (.int .u64 (bits .andNot .u64 p q)) := by
  refine FnP.mk Tryd.func84 rfl Tryd.ntmps84 rfl ?_
  intro B a w F hB hfr hS
  refine wp_seq ?_
  refine region_q hS
    (cF rfl (oN (.ci (by kernel_rfl))) trivial trivial
    Chain.nil)
    hB ?_
  clear hS; intro a w F hS
  obtain ⟨F, hS⟩ := hS.nm [4, 1, 0] [0] rfl rfl
  refine then_n (wp_seq ?_)
  refine region_q hS
    (cF rfl (oM .t) r1 trivial
    (cF rfl (oM .t) r1 trivial
    (cF rfl (o_andnot .t .t) r2 trivial
    (cF rfl (oN .t) r1 trivial
    Chain.nil))))
    hB ?_
  clear hS; intro a w F hS
  obtain ⟨F, hS⟩ := hS.nm [4] [0] rfl rfl
  refine then_n (wp_ret ?_)
  refine ret_P hfr hS rfl (.tmp rfl .nil) (.one .refl)

theorem minusW_ref (b n : Nat) (ws : List Int) (m : Nat) (us : List Int) (hu : ∀ k, 0 ≤ Go.Gm.nth us k ∧ Go.Gm.nth us k < 18446744073709551616) : FnG Tryd.prog 71 1 [.is (.pointer (some ⟨b, 0, none⟩)), .ref [.int .i64 m, .sl rU64 us]] [bitsH (.pointer (some ⟨b, 0, none⟩)) n ws] (.bool (!decide (ws = eachW (fun a b => bits .andNot .u64 a b) n ws us))) (fun _ => [bitsH (.pointer (some ⟨b, 0, none⟩)) n (eachW (fun a b => bits .andNot .u64 a b) n ws us)]) := by
  refine FnG.mk Tryd.func71 rfl Tryd.ntmps71 rfl (by kernel_rfl) ?_
  intro B F0 a w F hB hG hS
  refine wp_seq ?_
  refine region_q hS
    (cF rfl (oN .cb) trivial trivial
    Chain.nil)
    hB ?_
  clear hS; intro a w F hS
  obtain ⟨F, hS⟩ := hS.nm [4, 1, 0] [1, 0] rfl rfl
  refine then_n (wp_seq ?_)
  refine region_q hS
    (cF rfl (oM .t) r1 trivial
    (cF rfl (oM .t) r1 trivial
    (cF rfl (o_callG1 1 (each_ref bitop_andNot Tryd.func84 rfl (by kernel_rfl) (fun p q => minus_rule p q) b n ws m us hu) Tryd.func69 rfl (by kernel_rfl) (Args.three .t .t .f)) r2 r1
    (cF rfl (oN .t) r1 trivial
    Chain.nil))))
    hB ?_
  clear hS; intro a w F hS
  obtain ⟨F, hS⟩ := hS.nm [4] [1, 0] rfl rfl
  refine then_n (wp_ret ?_)
  refine ret_G1 hG hS rfl (.tmp rfl .nil) (.one (.bool rfl)) rfl

theorem minus_c (b n : Nat) (x : List Int) (m : Nat) (z : List Int) : FnG Tryd.prog 71 1 [.is (.pointer (some ⟨b, 0, none⟩)), setR m z] [setH (.pointer (some ⟨b, 0, none⟩)) n x] (.bool (!decide (x = minusL x z))) (fun _ => [setH (.pointer (some ⟨b, 0, none⟩)) n (minusL x z)]) := FnG.ofWords2 fun ws us hs ks => ⟨_, hs.minus ks, by rw [← hs.same (hs.minus ks)]; exact minusW_ref b n ws m us ks.ok.wd⟩
end Go.Proofs.YtpahapjcdldodaaDoor
namespace Go.Proofs.YtpahapjcdldodaaDoor
open Go Go.Gm
set_option linter.unusedVariables false
set_option linter.unusedSimpArgs false
set_option maxHeartbeats 4000000
set_option maxRecDepth 8000




end Go.Proofs.YtpahapjcdldodaaDoor
namespace Go.Proofs.YtpahapjcdldodaaDoor
open Go Go.Gm
set_option linter.unusedVariables false
set_option linter.unusedSimpArgs false
set_option maxHeartbeats 4000000
set_option maxRecDepth 8000


theorem copy_c (n : Nat) (x : List Int) : FnG Tryd.prog 48 1 [setR n x] [gH tabP tabV] (PV.ptr) (fun v => [setH v n x]) := by
  refine FnG.mk Tryd.func48 rfl Tryd.ntmps48 rfl (by kernel_rfl) ?_
  intro B F0 a w F hB hG hS
  have hup := Sat.setRup hS (i := 0) rfl
  have hhi := hup.1
  refine wp_seq ?_
  refine region_q hS
    (cF rfl (oN (.c rfl)) trivial trivial
    Chain.nil)
    hB ?_
  clear hS; intro a w F hS
  obtain ⟨F, hS⟩ := hS.nm [2, 0] [1, 0] rfl rfl
  refine then_n (wp_seq ?_)
  refine region_q hS
    (cF rfl (oM .t) r1 trivial
    (cF rfl (oP (len_c n x) Tryd.func68 (Args.one .t)) r1 trivial
    (cF rfl (o_callNg 1 (newS_c _) Tryd.func41 rfl (by kernel_rfl) (Args.one .t) PV.ptr_one) r1 r1
    (cF rfl (oN .t) r1 trivial
    Chain.nil))))
    hB ?_
  clear hS; intro a w F hS
  replace hS := hS.sub
  obtain ⟨F, hS⟩ := hS.nm [3, 2, 0] [1, 0] rfl rfl
  try dsimp only [RS.sub, SF.sub, CF.sub, csub, Anc.sub, List.map] at hS
  generalize Act.tau a 6 = v6 at hS
  obtain ⟨_, _, _, ho⟩ := hS.obGet 1 rfl
  obtain ⟨b, rfl⟩ := setH_ptr ho
  clear ho
  replace hS := hS.turn 1 rfl (r' := RS.hp (setH (.pointer (some ⟨b, 0, none⟩)) (rowN (n : Int)) [])) (fun _ _ _ _ h => h)
  obtain ⟨F, hS⟩ := hS.nm [3, 2, 0] [1, 0] rfl rfl
  rw [rowN_nat hup.1] at hS
  refine then_n (wp_seq ?_)
  refine region_q hS
    (cF rfl (oM .t) r1 trivial
    (cF rfl (oM .t) r1 trivial
    (cF rfl (o_callG1 1 (or_c b n [] n x) Tryd.func49 rfl (by kernel_rfl) (Args.two .t .t)) r2 r1
    Chain.nil)))
    hB ?_
  clear hS; intro a w F hS
  obtain ⟨F, hS⟩ := hS.nm [3, 2] [1, 0] rfl rfl
  rw [orL_nil hup.2] at hS
  refine then_n (wp_seq ?_)
  refine region_q hS
    (cF rfl (oM .t) r1 trivial
    (cF rfl (oN .t) r1 trivial
    Chain.nil))
    hB ?_
  clear hS; intro a w F hS
  obtain ⟨F, hS⟩ := hS.nm [2] [1, 0] rfl rfl
  refine then_n (wp_ret ?_)
  refine ret_N1 (h' := fun v => setH v n x) hG hS rfl (.tmp rfl .nil) (.one .ptr) rfl

theorem sameW_c (n m : Nat) (ws us : List Int) (hI : RowOk n ws) (hK : RowOk m us) : FnP Tryd.prog 52 [.ref [.int .i64 n, .sl rU64 ws], .ref [.int .i64 m, .sl rU64 us]] (.bool (decide (n = m ∧ ws = us))) := by
  refine FnP.mk Tryd.func52 rfl Tryd.ntmps52 rfl ?_
  intro B a w F hB hfr hS
  refine wp_seq ?_
  refine region_q hS
    (cF rfl (oN .cb) trivial trivial
    Chain.nil)
    hB ?_
  clear hS; intro a w F hS
  obtain ⟨F, hS⟩ := hS.nm [4, 1, 0] [0] rfl rfl
  refine then_n (wp_seq (wp_seq ?_))
  refine region_q hS
    (cF rfl (oM .t) r1 trivial
    (cF rfl (oP (rlen_c n _) Tryd.func68 (Args.one .t)) r1 trivial
    (cF rfl (oM .t) r1 trivial
    (cF rfl (oP (rlen_c m _) Tryd.func68 (Args.one .t)) r1 trivial
    (cF rfl (o_neq .t .t) r2 trivial
    Chain.nil)))))
    hB ?_
  clear hS; intro a w F hS
  obtain ⟨F, hS⟩ := hS.nm [10, 4, 1, 0] [0] rfl rfl
  refine then_n ?_
  refine cond_b hS rfl (fun hc0 => ?_) (fun hc0 => ?_)
  ·skip
   have hg : false = decide (n = m ∧ ws = us) := by rw [eq_comm, decide_eq_false_iff_not]; rintro ⟨rfl, _⟩; simp at hc0
   refine wp_seq ?_
   refine region_q hS
     (cF rfl (oN .cb) trivial trivial
     Chain.nil)
     hB ?_
   clear hS; intro a w F hS
   obtain ⟨F, hS⟩ := hS.nm [4, 1, 0] [0] rfl rfl
   refine then_n (wp_ret (then_r ?_))
   refine ret_P hfr hS rfl (.tmp rfl .nil) (.one (.bool hg))
  have hnm : n = m := by simp at hc0; omega
  have hlu : us.length = ws.length := by rw [hI.len, hK.len, hnm]
  have hll : ws.length ≤ 9223372036854775807 := by have := hI.len; have := hI.hi; omega
  refine wp_skip (then_n (wp_seq (wp_seq ?_)))
  refine region_q hS
    (cF rfl (oM .t) r1 trivial
    (cF rfl (o_ref_eql Tryd.underlying72 .t) r1 trivial
    (cF rfl (oM .t) r1 trivial
    (Chain.cons (Cert.cond rfl rfl (fun h => o_move .t (by rfl))) r2 trivial
    (Chain.cons (Cert.cond rfl rfl (fun h => o_ref_eql Tryd.underlying72 (.w h))) r2 trivial
    (cF rfl (o_or2 .t .t) r2 trivial
    Chain.nil))))))
    hB ?_
  clear hS; intro a w F hS
  obtain ⟨F, hS⟩ := hS.nm [16, 4, 1, 0] [0] rfl rfl
  refine then_n ?_
  refine cond_b hS rfl (fun hc1 => ?_) (fun hc1 => ?_)
  ·skip
   simp at hc1
  refine wp_skip (then_n (wp_seq (wp_seq ?_)))
  refine region_q hS
    (cF rfl (oM .t) r1 trivial
    (cF rfl (o_nilCheck_ref .t) r1 trivial
    (cF rfl (oG 1 .t) r1 trivial
    (cF rfl (oR false 1 .t) r1 trivial
    (cF rfl (o_len_sl Tryd.underlying102 .t) r1 trivial
    (cF rfl (oM (.ci (by kernel_rfl))) trivial trivial
    Chain.nil))))))
    hB ?_
  clear hS; intro a w F hS
  obtain ⟨F, hS⟩ := hS.nm [22, 21, 4, 1, 0] [0] rfl rfl
  try dsimp only [List.map, xD, xE, xT, xU, ldSF] at hS
  refine then_n (wp_block ?_)
  refine loop_keep (σ := (Nat)) [0, 1, 4, 21] [0] (fun s => [(22, .pv (.int .i64 (s : Int)))]) (fun s => []) (fun s => s ≤ ws.length ∧ (∀ j, j < s → Go.Gm.nth ws j = Go.Gm.nth us j)) (fun s => ws.length - s) (0) hS ⟨rfl, rfl, rfl, rfl, rfl, trivial⟩ ⟨rfl, trivial⟩ ⟨Nat.zero_le _, fun j hj => absurd hj (Nat.not_lt_zero j)⟩ ?_
  clear hS; intro i a w F hC hS
  try dsimp only at hC
  obtain ⟨F, hS⟩ := hS.nm [22, 21, 4, 1, 0] [0] rfl rfl
  try dsimp only at hS
  obtain ⟨hi, hq⟩ := hC
  refine wp_seq ?_
  refine region_q hS
    (cF rfl (o_lss .t .t) r2 trivial
    Chain.nil)
    hB ?_
  clear hS; intro a w F hS
  obtain ⟨F, hS⟩ := hS.nm [23, 22, 21, 4, 1, 0] [0] rfl rfl
  refine then_n (wp_seq ?_)
  refine cond_b hS rfl (fun hc2 => ?_) (fun hc2 => ?_)
  ·skip
   have hil : i < ws.length := by simp at hc2; omega
   refine wp_skip (then_n (wp_seq (wp_block (wp_seq ?_))))
   refine region_q hS
     (cF rfl (oM .t) r1 trivial
     (cF rfl (oN .t) r1 trivial
     Chain.nil))
     hB ?_
   clear hS; intro a w F hS
   obtain ⟨F, hS⟩ := hS.nm [24, 23, 22, 21, 5, 4, 1, 0] [0] rfl rfl
   refine then_n (wp_seq ?_)
   refine region_any (by kernel_rfl) hS (by kernel_rfl)
     (cF rfl (oM .t) r1 trivial
     (cF rfl (o_nilCheck_ref .t) r1 trivial
     (cF rfl (oG 1 .t) r1 trivial
     (cF rfl (oR false 1 .t) r1 trivial
     (cF rfl (oM .t) r1 trivial
     (cF rfl (o_indexAddr_sl (sz := 1) (.mk Tryd.underlying102 (by kernel_rfl)) (by intro x; rfl) .t .t (by first | assumption | omega) (by first | assumption | omega)) r2 trivial
     (cF rfl (oR false 1 .t) r1 trivial
     (cF rfl (oM .t) r1 trivial
     (cF rfl (o_nilCheck_ref .t) r1 trivial
     (cF rfl (oG 1 .t) r1 trivial
     (cF rfl (oR false 1 .t) r1 trivial
     (cF rfl (oM .t) r1 trivial
     (cF rfl (o_indexAddr_sl (sz := 1) (.mk Tryd.underlying102 (by kernel_rfl)) (by intro x; rfl) .t .t (by omega) (by omega)) r2 trivial
     (cF rfl (oR false 1 .t) r1 trivial
     (cF rfl (o_neq .t .t) r2 trivial
     Chain.nil)))))))))))))))
     (by kernel_rfl) (by rw [hB]; kernel_rfl) ?_
   clear hS; intro a w F hS
   obtain ⟨F, hS⟩ := hS.nm [39, 38, 37, 36, 35, 34, 33, 32, 31, 30, 29, 28, 27, 26, 25, 24, 23, 22, 21, 5, 4, 1, 0] [0] rfl rfl
   try dsimp only [List.map, xD, xE, xT, xU, ldSF] at hS
   try simp only [Int.toNat_natCast] at hS
   refine then_n ?_
   refine cond_b hS rfl (fun hc3 => ?_) (fun hc3 => ?_)
   ·skip
    have hg : false = decide (n = m ∧ ws = us) := by
      rw [eq_comm, decide_eq_false_iff_not]
      rintro ⟨_, rfl⟩
      simp at hc3
    refine wp_seq ?_
    refine region_q hS
      (cF rfl (oN .cb) trivial trivial
      Chain.nil)
      hB ?_
    clear hS; intro a w F hS
    obtain ⟨F, hS⟩ := hS.nm [39, 38, 37, 36, 35, 34, 33, 32, 31, 30, 29, 28, 27, 26, 25, 24, 23, 22, 21, 5, 4, 1, 0] [0] rfl rfl
    refine then_n (wp_ret (block_r (then_r (then_r (block_r (then_r ?_))))))
    refine ret_P hfr hS rfl (.tmp rfl .nil) (.one (.bool hg))
   have hqi : Go.Gm.nth ws i = Go.Gm.nth us i := by simpa using hc3
   refine wp_skip (block_n (then_n ?_))
   refine region_q hS
     (cF rfl (o_add .t (.ci (by kernel_rfl))) r1 trivial
     (cF rfl (oM .t) r1 trivial
     Chain.nil))
     hB ?_
   clear hS; intro a w F hS
   obtain ⟨F, hS⟩ := hS.nm [40, 39, 38, 37, 36, 35, 34, 33, 32, 31, 30, 29, 28, 27, 26, 25, 24, 23, 22, 21, 5, 4, 1, 0] [0] rfl rfl
   refine then_n ?_
   replace hS := hS.ent (i := 22) (s' := .pv (.int .i64 ((i + 1 : Nat) : Int))) rfl (.int (wrap_succ (by omega)))
   obtain ⟨F, hS⟩ := hS.nm [21, 4, 1, 0, 22] [0] rfl rfl
   exact ⟨(i + 1), F, ⟨by omega, fun j hj => by rcases Nat.lt_or_eq_of_le (Nat.le_of_lt_succ hj) with h | h; exact hq j h; rw [h]; exact hqi⟩, hS, by omega⟩
  have hil : i = ws.length := by simp at hc2; omega
  have hg : true = decide (n = m ∧ ws = us) := by
    rw [eq_comm, decide_eq_true_eq]
    exact ⟨hnm, list_same hlu.symm fun j hj => hq j (by omega)⟩
  refine wp_exit (then_x (then_x (block_x (then_n (wp_seq ?_)))))
  refine region_q hS
    (cF rfl (oN .cb) trivial trivial
    Chain.nil)
    hB ?_
  clear hS; intro a w F hS
  obtain ⟨F, hS⟩ := hS.nm [4] [0] rfl rfl
  refine then_n (wp_ret ?_)
  refine ret_P hfr hS rfl (.tmp rfl .nil) (.one (.bool hg))

theorem sameS_c (n m : Nat) (x z : List Int) : FnP Tryd.prog 52 [setR n x, setR m z] (.bool (decide (n = m ∧ x = z))) := FnP.ofWords2 fun ws us hs ks => by
  have e : decide (n = m ∧ x = z) = decide (n = m ∧ ws = us) := by
    rw [decide_eq_decide]
    constructor
    · rintro ⟨rfl, h⟩; exact ⟨rfl, by have := hs.same ks; rw [decide_eq_decide] at this; exact this.2 h⟩
    · rintro ⟨rfl, h⟩; exact ⟨rfl, by have := hs.same ks; rw [decide_eq_decide] at this; exact this.1 h⟩
  rw [e]; exact (sameW_c n m ws us hs.ok ks.ok).glob
end Go.Proofs.YtpahapjcdldodaaDoor
namespace Go.Proofs.YtpahapjcdldodaaDoor
open Go Go.Gm
set_option linter.unusedVariables false
set_option linter.unusedSimpArgs false
set_option maxHeartbeats 4000000
set_option maxRecDepth 8000


section
variable {out t T : List Int} {x e : Int} {d : Bool}
end

theorem in_c (l : List Int) (x : Int) (hl : l.length ≤ 1000000) : FnP Tryd.prog 22 [.sl rInt l, .int .i64 x] (.bool (decide (x ∈ l))) := by
  refine FnP.mk Tryd.func22 rfl Tryd.ntmps22 rfl ?_
  intro B a w F hB hfr hS
  refine wp_seq ?_
  refine region_q hS
    (cF rfl (oN .cb) trivial trivial
    Chain.nil)
    hB ?_
  clear hS; intro a w F hS
  obtain ⟨F, hS⟩ := hS.nm [4, 1, 0] [0] rfl rfl
  refine then_n (wp_seq (wp_seq ?_))
  refine region_q hS
    (cF rfl (oM .t) r1 trivial
    (cF rfl (o_len_sl Tryd.underlying30 .t) r1 trivial
    (cF rfl (oM (.ci (by kernel_rfl))) trivial trivial
    Chain.nil)))
    hB ?_
  clear hS; intro a w F hS
  obtain ⟨F, hS⟩ := hS.nm [9, 8, 7, 4, 1] [0] rfl rfl
  refine then_n (wp_block ?_)
  refine loop_keep (σ := (Nat)) [1, 4, 7, 8] [0] (fun s => [(9, .pv (.int .i64 (s : Int)))]) (fun s => []) (fun s => s ≤ l.length ∧ (decide (x ∈ l.drop s) = decide (x ∈ l))) (fun s => l.length - s) (0) hS ⟨rfl, rfl, rfl, rfl, rfl, trivial⟩ ⟨rfl, trivial⟩ ⟨Nat.zero_le _, rfl⟩ ?_
  clear hS; intro i a w F hC hS
  try dsimp only at hC
  obtain ⟨F, hS⟩ := hS.nm [9, 8, 7, 4, 1] [0] rfl rfl
  try dsimp only at hS
  obtain ⟨hi, hq⟩ := hC
  refine wp_seq ?_
  refine region_q hS
    (cF rfl (o_lss .t .t) r2 trivial
    Chain.nil)
    hB ?_
  clear hS; intro a w F hS
  obtain ⟨F, hS⟩ := hS.nm [10, 9, 8, 7, 4, 1] [0] rfl rfl
  refine then_n (wp_seq ?_)
  refine cond_b hS rfl (fun hc0 => ?_) (fun hc0 => ?_)
  ·skip
   have hil : i < l.length := by simp at hc0; omega
   refine wp_skip (then_n (wp_seq (wp_block (wp_seq ?_))))
   refine region_q hS
     (cF rfl (o_indexAddr_sl (sz := 1) (.mk Tryd.underlying30 (by kernel_rfl)) (by intro x; rfl) .t .t (by first | assumption | omega) (by first | assumption | omega)) r2 trivial
     (cF rfl (oR false 1 .t) r1 trivial
     (cF rfl (oN .t) r1 trivial
     Chain.nil)))
     hB ?_
   clear hS; intro a w F hS
   obtain ⟨F, hS⟩ := hS.nm [12, 11, 10, 9, 8, 7, 6, 4, 1] [0] rfl rfl
   try dsimp only [List.map, xD, xE, xT, xU, ldSF] at hS
   try simp only [Int.toNat_natCast] at hS
   refine then_n (wp_seq ?_)
   refine region_q hS
     (cF rfl (oM .t) r1 trivial
     (cF rfl (oM .t) r1 trivial
     (cF rfl (o_eql .t .t) r2 trivial
     Chain.nil)))
     hB ?_
   clear hS; intro a w F hS
   obtain ⟨F, hS⟩ := hS.nm [15, 14, 13, 12, 11, 10, 9, 8, 7, 6, 4, 1] [0] rfl rfl
   refine then_n ?_
   refine cond_b hS rfl (fun hc1 => ?_) (fun hc1 => ?_)
   ·skip
    have hBq : Go.Gm.nth l i = x := by simpa using hc1
    have hg : true = decide (x ∈ l) := by rw [← hq, drop_nth hil, hBq]; simp
    refine wp_seq ?_
    refine region_q hS
      (cF rfl (oN .cb) trivial trivial
      Chain.nil)
      hB ?_
    clear hS; intro a w F hS
    obtain ⟨F, hS⟩ := hS.nm [15, 14, 13, 12, 11, 10, 9, 8, 7, 6, 4, 1] [0] rfl rfl
    refine then_n (wp_ret (block_r (then_r (then_r (block_r (then_r ?_))))))
    refine ret_P hfr hS rfl (.tmp rfl .nil) (.one (.bool hg))
   have hBq : ¬ Go.Gm.nth l i = x := by simpa using hc1
   refine wp_skip (block_n (then_n ?_))
   refine region_q hS
     (cF rfl (o_add .t (.ci (by kernel_rfl))) r1 trivial
     (cF rfl (oM .t) r1 trivial
     Chain.nil))
     hB ?_
   clear hS; intro a w F hS
   obtain ⟨F, hS⟩ := hS.nm [16, 15, 14, 13, 12, 11, 10, 9, 8, 7, 6, 4, 1] [0] rfl rfl
   refine then_n ?_
   replace hS := hS.ent (i := 9) (s' := .pv (.int .i64 ((i + 1 : Nat) : Int))) rfl (.int (wrap_succ (by omega)))
   obtain ⟨F, hS⟩ := hS.nm [8, 7, 4, 1, 9] [0] rfl rfl
   exact ⟨(i + 1), F, ⟨by omega, (by rw [drop_nth hil] at hq; rw [← hq, decide_eq_decide, List.mem_cons]; exact ⟨.inr, fun h => h.resolve_left fun e => hBq e.symm⟩)⟩, hS, by omega⟩
  have hil : i = l.length := by simp at hc0; omega
  have hg : false = decide (x ∈ l) := by rw [← hq, hil, List.drop_length]; simp
  refine wp_exit (then_x (then_x (block_x (then_n (wp_seq ?_)))))
  refine region_q hS
    (cF rfl (oN .cb) trivial trivial
    Chain.nil)
    hB ?_
  clear hS; intro a w F hS
  obtain ⟨F, hS⟩ := hS.nm [4] [0] rfl rfl
  refine then_n (wp_ret ?_)
  refine ret_P hfr hS rfl (.tmp rfl .nil) (.one (.bool hg))

theorem sameInts_c (x y : List Int) : FnP Tryd.prog 18 [.sl rInt x, .sl rInt y] (.bool (decide (x = y))) := by
  refine FnP.mk Tryd.func18 rfl Tryd.ntmps18 rfl ?_
  intro B a w F hB hfr hS
  have hxl := Sat.lenSl hS (i := 0) rfl
  refine wp_seq ?_
  refine region_q hS
    (cF rfl (oN .cb) trivial trivial
    Chain.nil)
    hB ?_
  clear hS; intro a w F hS
  obtain ⟨F, hS⟩ := hS.nm [4, 1, 0] [0] rfl rfl
  refine then_n (wp_seq (wp_seq ?_))
  refine region_q hS
    (cF rfl (oM .t) r1 trivial
    (cF rfl (o_len_sl Tryd.underlying30 .t) r1 trivial
    (cF rfl (oM .t) r1 trivial
    (cF rfl (o_len_sl Tryd.underlying30 .t) r1 trivial
    (cF rfl (o_neq .t .t) r2 trivial
    Chain.nil)))))
    hB ?_
  clear hS; intro a w F hS
  obtain ⟨F, hS⟩ := hS.nm [10, 4, 1, 0] [0] rfl rfl
  refine then_n ?_
  refine cond_b hS rfl (fun hc0 => ?_) (fun hc0 => ?_)
  ·skip
   have hg : false = decide (x = y) := by
     rw [eq_comm, decide_eq_false_iff_not]
     intro h
     subst h
     simp at hc0
   refine wp_seq ?_
   refine region_q hS
     (cF rfl (oN .cb) trivial trivial
     Chain.nil)
     hB ?_
   clear hS; intro a w F hS
   obtain ⟨F, hS⟩ := hS.nm [4, 1, 0] [0] rfl rfl
   refine then_n (wp_ret (then_r ?_))
   refine ret_P hfr hS rfl (.tmp rfl .nil) (.one (.bool hg))
  have hl : x.length = y.length := by simp at hc0; omega
  refine wp_skip (then_n (wp_seq (wp_seq ?_)))
  refine region_q hS
    (cF rfl (oM .t) r1 trivial
    (cF rfl (o_len_sl Tryd.underlying30 .t) r1 trivial
    (cF rfl (oM (.ci (by kernel_rfl))) trivial trivial
    Chain.nil)))
    hB ?_
  clear hS; intro a w F hS
  obtain ⟨F, hS⟩ := hS.nm [13, 12, 4, 1, 0] [0] rfl rfl
  refine then_n (wp_block ?_)
  obtain ⟨F, hS⟩ := hS.nm [13, 12, 1, 0] [0] rfl rfl
  refine loop_inv (σ := Nat) (fun s => (⟨[(0, .pv (.sl rInt x)), (1, .pv (.sl rInt y)), (12, .pv (.int .i64 x.length)), (13, .pv (.int .i64 s))], [(0, frame B)]⟩ : En)) (fun s => s ≤ x.length ∧ ∀ j, j < s → Go.Gm.nth x j = Go.Gm.nth y j) (fun s => x.length - s) 0 hS ⟨Nat.zero_le _, fun j hj => absurd hj (Nat.not_lt_zero j)⟩ ?_
  clear hS; intro i a w F hC hS
  try dsimp only at hC
  try dsimp only at hS
  obtain ⟨hi, hq⟩ := hC
  refine wp_seq ?_
  refine region_q hS
    (cF rfl (o_lss .t .t) r2 trivial
    Chain.nil)
    hB ?_
  clear hS; intro a w F hS
  obtain ⟨F, hS⟩ := hS.nm [14, 13, 12, 1, 0] [0] rfl rfl
  refine then_n (wp_seq ?_)
  refine cond_b hS rfl (fun hc1 => ?_) (fun hc1 => ?_)
  ·skip
   have hil : i < x.length := by simp at hc1; omega
   refine wp_skip (then_n (wp_seq (wp_block (wp_seq ?_))))
   refine region_q hS
     (cF rfl (oM .t) r1 trivial
     (cF rfl (oN .t) r1 trivial
     Chain.nil))
     hB ?_
   clear hS; intro a w F hS
   obtain ⟨F, hS⟩ := hS.nm [15, 14, 13, 12, 5, 1, 0] [0] rfl rfl
   refine then_n (wp_seq ?_)
   refine region_any (by kernel_rfl) hS (by kernel_rfl)
     (cF rfl (oM .t) r1 trivial
     (cF rfl (oM .t) r1 trivial
     (cF rfl (o_indexAddr_sl (sz := 1) (.mk Tryd.underlying30 (by kernel_rfl)) (by intro x; rfl) .t .t (by omega) (by omega)) r2 trivial
     (cF rfl (oR false 1 .t) r1 trivial
     (cF rfl (oM .t) r1 trivial
     (cF rfl (oM .t) r1 trivial
     (cF rfl (o_indexAddr_sl (sz := 1) (.mk Tryd.underlying30 (by kernel_rfl)) (by intro x; rfl) .t .t (by omega) (by omega)) r2 trivial
     (cF rfl (oR false 1 .t) r1 trivial
     (cF rfl (o_neq .t .t) r2 trivial
     Chain.nil)))))))))
     (by kernel_rfl) (by rw [hB]; kernel_rfl) ?_
   clear hS; intro a w F hS
   obtain ⟨F, hS⟩ := hS.nm [24, 23, 22, 21, 20, 19, 18, 17, 16, 15, 14, 13, 12, 5, 1, 0] [0] rfl rfl
   try dsimp only [List.map, xD, xE, xT, xU, ldSF] at hS
   refine then_n ?_
   refine cond_b hS rfl (fun hc2 => ?_) (fun hc2 => ?_)
   ·skip
    have hg : false = decide (x = y) := by
      rw [eq_comm, decide_eq_false_iff_not]
      intro h
      subst h
      simp at hc2
    refine wp_seq ?_
    refine region_q hS
      (cF rfl (oN .cb) trivial trivial
      Chain.nil)
      hB ?_
    clear hS; intro a w F hS
    obtain ⟨F, hS⟩ := hS.nm [24, 23, 22, 21, 20, 19, 18, 17, 16, 15, 14, 13, 12, 5, 4, 1, 0] [0] rfl rfl
    refine then_n (wp_ret (block_r (then_r (then_r (block_r (then_r ?_))))))
    refine ret_P hfr hS rfl (.tmp rfl .nil) (.one (.bool hg))
   rw [Int.toNat_natCast] at hc2
   have hqi : Go.Gm.nth x i = Go.Gm.nth y i := by simpa using hc2
   refine wp_skip (block_n (then_n ?_))
   refine region_q hS
     (cF rfl (o_add .t (.ci (by kernel_rfl))) r1 trivial
     (cF rfl (oM .t) r1 trivial
     Chain.nil))
     hB ?_
   clear hS; intro a w F hS
   obtain ⟨F, hS⟩ := hS.nm [25, 24, 23, 22, 21, 20, 19, 18, 17, 16, 15, 14, 13, 12, 5, 1, 0] [0] rfl rfl
   refine then_n ?_
   replace hS := hS.ent (i := 13) (s' := .pv (.int .i64 ((i + 1 : Nat) : Int))) rfl (.int (wrap_succ (by omega)))
   obtain ⟨F, hS⟩ := hS.nm [13, 12, 1, 0] [0] rfl rfl
   exact ⟨i + 1, F, ⟨by omega, fun j hj => by rcases Nat.lt_or_eq_of_le (Nat.le_of_lt_succ hj) with h | h; exact hq j h; rw [h]; exact hqi⟩, hS, by omega⟩
  have hg : true = decide (x = y) := by
    rw [eq_comm, decide_eq_true_eq]
    exact list_same hl fun j hj => hq j (by simp at hc1; omega)
  refine wp_exit (then_x (then_x (block_x (then_n (wp_seq ?_)))))
  refine region_q hS
    (cF rfl (oN .cb) trivial trivial
    Chain.nil)
    hB ?_
  clear hS; intro a w F hS
  obtain ⟨F, hS⟩ := hS.nm [4] [0] rfl rfl
  refine then_n (wp_ret ?_)
  refine ret_P hfr hS rfl (.tmp rfl .nil) (.one (.bool hg))

end Go.Proofs.YtpahapjcdldodaaDoor
namespace Go.Proofs.YtpahapjcdldodaaDoor
open Go Go.Gm
set_option linter.unusedVariables false
set_option linter.unusedSimpArgs false
set_option maxHeartbeats 4000000
set_option maxRecDepth 8000


/-- A function that makes a row out of one that it reads: as its owner calls it, who keeps what is made. -/
theorem FnG.readNewG {f : FuncId} {args : List PV} {v : Value} {n m : Nat} {x z : List Int} (hc : FnG Tryd.prog f 1 (setR n x :: args) [gH tabP tabV] PV.ptr (fun u => [setH u m z])) : FnG Tryd.prog f 2 (.is v :: args) [setH v n x, HP.star []] PV.ptr (fun u => [setH v n x, setH u m z]) := fun w F vs hw hle hv hp => by
  have hset := hp 0 _ rfl
  have hemp := hp 1 _ rfl
  match vs, hv with
  | u :: us, hv =>
    obtain ⟨rfl, _⟩ := hv.1
    let F2 : Fp := fun k => if k = 0 then F 0 else fun _ => False
    have hconv : ∀ k b, F2 k b → k = 0 ∧ F 0 b := fun k b hk => by
      by_cases e : k = 0
      · subst e; exact ⟨rfl, by simpa [F2] using hk⟩
      · simp [F2, e] at hk
    have h2 : ∀ b, U F2 b → U F b := fun b ⟨k, hk⟩ => ⟨0, (hconv k b hk).2⟩
    have hn1 : ∀ b, F 1 b → ¬ U F2 b := fun b hb ⟨k, hk⟩ => by have := hw.dis 0 1 b (hconv k b hk).2 hb; omega
    have hr := setH_lend w (F 1) (U F) (U F2) hset h2 hn1 (fun b hb => hw.bd 1 b hb)
    obtain ⟨_, _, _, htab⟩ := setH_iff.1 hset
    have hw2 : Wf F2 w := ⟨fun i j b hi hj => by rw [(hconv i b hi).1, (hconv j b hj).1], fun k b hk => hw.bd 0 b (hconv k b hk).2⟩
    refine (hc w F2 (u :: us) hw2 (fun k b hk => by have := (hconv k b hk).1; omega) ⟨hr, PVt.mono (Ev.less w h2) hv.2⟩ (fun i k hi => by
      match i, hi with
      | 0, hi => simp at hi; subst hi; exact ⟨fun b hb => by simp [F2] at hb, PV.mono _ (Ev.less w h2) htab⟩)).mono ?_
    rintro e w' ⟨t, F', rfl, a1, a2, a3, a4, a5⟩
    have hnew := a5 0 _ rfl
    have hfresh : ∀ b, F' 1 b → w.heap.size ≤ b := fun b hb => by
      rcases a2.fnew 1 (by simp) b hb with ⟨k, hk, hkb⟩ | h
      · simp at hk; subst hk; simp [F2] at hkb
      · exact h
    have hkeep : ∀ b, b < w.heap.size → w'.heap[b]? = w.heap[b]? := fun b hb => a2.keep b hb (fun k hk hkb => by simp at hk; subst hk; simp [F2] at hkb)
    let F3 : Fp := fun k => if k = 0 then F 0 else if k = 1 then F 1 else if k = 2 then F' 1 else fun _ => False
    have e0 : F3 0 = F 0 := by simp [F3]
    have e1 : F3 1 = F 1 := by simp [F3]
    have e2 : F3 2 = F' 1 := by simp [F3]
    have hF3 : ∀ k b, F3 k b → (k = 0 ∧ F 0 b) ∨ (k = 1 ∧ F 1 b) ∨ (k = 2 ∧ F' 1 b) := fun k b hk => by
      by_cases c0 : k = 0
      · subst c0; rw [e0] at hk; exact .inl ⟨rfl, hk⟩
      · by_cases c1 : k = 1
        · subst c1; rw [e1] at hk; exact .inr (.inl ⟨rfl, hk⟩)
        · by_cases c2 : k = 2
          · subst c2; rw [e2] at hk; exact .inr (.inr ⟨rfl, hk⟩)
          · simp [F3, c0, c1, c2] at hk
    have hw3 : Wf F3 w' := ⟨fun i j b hi hj => by
        rcases hF3 i b hi with ⟨rfl, h1⟩ | ⟨rfl, h1⟩ | ⟨rfl, h1⟩ <;> rcases hF3 j b hj with ⟨rfl, k1⟩ | ⟨rfl, k1⟩ | ⟨rfl, k1⟩
        · rfl
        · exact hw.dis 0 1 b h1 k1
        · have := hfresh b k1; have := hw.bd 0 b h1; omega
        · exact hw.dis 1 0 b h1 k1
        · rfl
        · have := hfresh b k1; have := hw.bd 1 b h1; omega
        · have := hfresh b h1; have := hw.bd 0 b k1; omega
        · have := hfresh b h1; have := hw.bd 1 b k1; omega
        · rfl, fun k b hk => by
        rcases hF3 k b hk with ⟨_, h1⟩ | ⟨_, h1⟩ | ⟨_, h1⟩
        · exact Nat.lt_of_lt_of_le (hw.bd 0 b h1) a2.size
        · exact Nat.lt_of_lt_of_le (hw.bd 1 b h1) a2.size
        · exact a1.bd 1 b h1⟩
    have hev : Ev w (U F) w' (U F3) := ⟨a2.os, a2.tape, a2.output, a2.size, fun b hb hnb => ⟨hkeep b hb, fun ⟨k, hk⟩ => hnb (by
      rcases hF3 k b hk with ⟨_, h1⟩ | ⟨_, h1⟩ | ⟨_, h1⟩
      · exact ⟨0, h1⟩
      · exact ⟨1, h1⟩
      · have := hfresh b h1; omega)⟩⟩
    have hst3 : Stp (List.range' 1 2) w F w' F3 := ⟨a2.os, a2.tape, a2.output, a2.size, fun b hb _ => hkeep b hb, fun k hk => by
        simp at hk
        by_cases c0 : k = 0
        · subst c0; exact e0
        · funext b
          refine propext ⟨fun h => ?_, fun h => ?_⟩
          · rcases hF3 k b h with ⟨c, _⟩ | ⟨c, _⟩ | ⟨c, _⟩ <;> omega
          · have := hle k b h; omega, fun k hk b hb => by
        rcases hF3 k b hb with ⟨c, h1⟩ | ⟨c, h1⟩ | ⟨c, h1⟩
        · subst c; simp at hk
        · exact .inl ⟨1, by simp, h1⟩
        · exact .inr (hfresh b h1)⟩
    refine ⟨t, F3, rfl, hw3, hst3, fun k b hk => by rcases hF3 k b hk with ⟨c, _⟩ | ⟨c, _⟩ | ⟨c, _⟩ <;> omega, a4, fun i k hi => ?_⟩
    match i, hi with
    | 0, hi =>
      simp at hi; subst hi
      obtain ⟨ws, k1, k2, k3⟩ := setH_iff.1 hset
      rw [show (0 : Nat) + 1 = 1 from rfl, e1]
      exact setH_iff.2 ⟨ws, k1, (bitsH _ n ws).st hev (fun b hb => hkeep b (hw.bd 1 b hb)) k2, tabP.mono hev k3⟩
    | 1, hi =>
      simp at hi; subst hi
      obtain ⟨ws', g1, g2, g3⟩ := setH_iff.1 hnew
      rw [show (1 : Nat) + 1 = 2 from rfl, e2]
      exact setH_iff.2 ⟨ws', g1, bitsH_free _ _ _ _ _ _ _ g2, tabP.mono hev htab⟩
structure DeedR where
  kind : Int
  other : Bool
  i : Int
  on : Bool
  deriving DecidableEq, Inhabited
theorem copy_n (v : Value) (n : Nat) (x : List Int) : FnG Tryd.prog 48 2 [.is v] [setH v n x, HP.star []] PV.ptr (fun u => [setH v n x, setH u n (x)]) := FnG.readNewG (copy_c n x)
end Go.Proofs.YtpahapjcdldodaaDoor
