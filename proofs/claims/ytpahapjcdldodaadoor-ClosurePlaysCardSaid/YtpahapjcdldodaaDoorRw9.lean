/- Copies, rows moved, held against each other. No condition beyond those that each theorem says. -/
import Derived.Test.YtpahapjcdldodaaDoorRw8
namespace Go.Proofs.YtpahapjcdldodaaDoor
open Go Go.Gm
set_option linter.unusedVariables false
set_option linter.unusedSimpArgs false
set_option maxHeartbeats 4000000
set_option maxRecDepth 8000


theorem shr6_nat (K : Nat) : ((K : Int)).fdiv (2 ^ min (6 : Int).toNat (IntKind.bits .i64)) = ((K / 64 : Nat) : Int) := by rw [shr6]; omega
theorem and63_nat (K : Nat) (h : K ≤ 65536) : IntKind.wrap .u64 (bits .and .i64 (K : Int) 63) = ((K % 64 : Nat) : Int) := by rw [and63 _ (by omega), wrap_u64 (by omega)]; omega

theorem copy_c (n : Nat) (x : List Int) : FnG Tryd.prog 48 1 [setR n x] [gH tabP tabV] (PV.ptr) (fun v => [setH v n x]) := by
  refine FnG.mk Tryd.func48 rfl Tryd.ntmps48 rfl (by kernel_rfl) ?_
  intro B F0 a w F hB hG hS
  have hup := Sat.setRup hS (i := 0) rfl
  have hhi := hup.1
  refine wp_seq ?_
  refine region_q hS
    (cF rfl (oN (.c rfl)) trivial trivial
    Chain.nil)
    hB ?_
  clear hS; intro a w F hS
  obtain ⟨F, hS⟩ := hS.nm [2, 0] [1, 0] rfl rfl
  refine then_n (wp_seq ?_)
  refine region_q hS
    (cF rfl (oM .t) r1 trivial
    (cF rfl (oP (len_c n x) Tryd.func68 (Args.one .t)) r1 trivial
    (cF rfl (o_callNg 1 (newS_c _) Tryd.func41 rfl (by kernel_rfl) (Args.one .t) PV.ptr_one) r1 r1
    (cF rfl (oN .t) r1 trivial
    Chain.nil))))
    hB ?_
  clear hS; intro a w F hS
  replace hS := hS.sub
  obtain ⟨F, hS⟩ := hS.nm [3, 2, 0] [1, 0] rfl rfl
  try dsimp only [RS.sub, SF.sub, CF.sub, csub, Anc.sub, List.map] at hS
  generalize Act.tau a 6 = v6 at hS
  obtain ⟨_, _, _, ho⟩ := hS.obGet 1 rfl
  obtain ⟨b, rfl⟩ := setH_ptr ho
  clear ho
  replace hS := hS.turn 1 rfl (r' := RS.hp (setH (.pointer (some ⟨b, 0, none⟩)) (rowN (n : Int)) [])) (fun _ _ _ _ h => h)
  obtain ⟨F, hS⟩ := hS.nm [3, 2, 0] [1, 0] rfl rfl
  rw [rowN_nat hup.1] at hS
  refine then_n (wp_seq ?_)
  refine region_q hS
    (cF rfl (oM .t) r1 trivial
    (cF rfl (oM .t) r1 trivial
    (cF rfl (o_callG1 1 (or_c b n [] n x) Tryd.func49 rfl (by kernel_rfl) (Args.two .t .t)) r2 r1
    Chain.nil)))
    hB ?_
  clear hS; intro a w F hS
  obtain ⟨F, hS⟩ := hS.nm [3, 2] [1, 0] rfl rfl
  rw [orL_nil hup.2] at hS
  refine then_n (wp_seq ?_)
  refine region_q hS
    (cF rfl (oM .t) r1 trivial
    (cF rfl (oN .t) r1 trivial
    Chain.nil))
    hB ?_
  clear hS; intro a w F hS
  obtain ⟨F, hS⟩ := hS.nm [2] [1, 0] rfl rfl
  refine then_n (wp_ret ?_)
  refine ret_N1 (h' := fun v => setH v n x) hG hS rfl (.tmp rfl .nil) (.one .ptr) rfl

theorem copy_nil  : FnG Tryd.prog 48 1 [.is (.pointer none)] [gH tabP tabV] (PV.ptr) (fun v => [setH v 0 []]) := by
  refine FnG.mk Tryd.func48 rfl Tryd.ntmps48 rfl (by kernel_rfl) ?_
  intro B F0 a w F hB hG hS
  refine wp_seq ?_
  refine region_q hS
    (cF rfl (oN (.c rfl)) trivial trivial
    Chain.nil)
    hB ?_
  clear hS; intro a w F hS
  obtain ⟨F, hS⟩ := hS.nm [2, 0] [1, 0] rfl rfl
  refine then_n (wp_seq ?_)
  refine region_q hS
    (cF rfl (oM .t) r1 trivial
    (cF rfl (oP (rlen_nil) Tryd.func68 (Args.one .t)) r1 trivial
    (cF rfl (o_callNg 1 (newS_c _) Tryd.func41 rfl (by kernel_rfl) (Args.one .t) PV.ptr_one) r1 r1
    (cF rfl (oN .t) r1 trivial
    Chain.nil))))
    hB ?_
  clear hS; intro a w F hS
  replace hS := hS.sub
  obtain ⟨F, hS⟩ := hS.nm [3, 2, 0] [1, 0] rfl rfl
  try dsimp only [RS.sub, SF.sub, CF.sub, csub, Anc.sub, List.map] at hS
  generalize Act.tau a 6 = v6 at hS
  obtain ⟨_, _, _, ho⟩ := hS.obGet 1 rfl
  obtain ⟨b, rfl⟩ := setH_ptr ho
  clear ho
  replace hS := hS.turn 1 rfl (r' := RS.hp (setH (.pointer (some ⟨b, 0, none⟩)) (rowN 0) [])) (fun _ _ _ _ h => h)
  obtain ⟨F, hS⟩ := hS.nm [3, 2, 0] [1, 0] rfl rfl
  rw [show rowN 0 = 0 from rfl] at hS
  refine then_n (wp_seq ?_)
  refine region_q hS
    (cF rfl (oM .t) r1 trivial
    (cF rfl (oM .t) r1 trivial
    (cF rfl (o_callG1 1 (or_nil b 0 []) Tryd.func49 rfl (by kernel_rfl) (Args.two .t .t)) r2 r1
    Chain.nil)))
    hB ?_
  clear hS; intro a w F hS
  obtain ⟨F, hS⟩ := hS.nm [3, 2] [1, 0] rfl rfl
  refine then_n (wp_seq ?_)
  refine region_q hS
    (cF rfl (oM .t) r1 trivial
    (cF rfl (oN .t) r1 trivial
    Chain.nil))
    hB ?_
  clear hS; intro a w F hS
  obtain ⟨F, hS⟩ := hS.nm [2] [1, 0] rfl rfl
  refine then_n (wp_ret ?_)
  refine ret_N1 (h' := fun v => setH v 0 []) hG hS rfl (.tmp rfl .nil) (.one .ptr) rfl

theorem sameW_c (n m : Nat) (ws us : List Int) (hI : RowOk n ws) (hK : RowOk m us) : FnP Tryd.prog 52 [.ref [.int .i64 n, .sl rU64 ws], .ref [.int .i64 m, .sl rU64 us]] (.bool (decide (n = m ∧ ws = us))) := by
  refine FnP.mk Tryd.func52 rfl Tryd.ntmps52 rfl ?_
  intro B a w F hB hfr hS
  refine wp_seq ?_
  refine region_q hS
    (cF rfl (oN .cb) trivial trivial
    Chain.nil)
    hB ?_
  clear hS; intro a w F hS
  obtain ⟨F, hS⟩ := hS.nm [4, 1, 0] [0] rfl rfl
  refine then_n (wp_seq (wp_seq ?_))
  refine region_q hS
    (cF rfl (oM .t) r1 trivial
    (cF rfl (oP (rlen_c n _) Tryd.func68 (Args.one .t)) r1 trivial
    (cF rfl (oM .t) r1 trivial
    (cF rfl (oP (rlen_c m _) Tryd.func68 (Args.one .t)) r1 trivial
    (cF rfl (o_neq .t .t) r2 trivial
    Chain.nil)))))
    hB ?_
  clear hS; intro a w F hS
  obtain ⟨F, hS⟩ := hS.nm [10, 4, 1, 0] [0] rfl rfl
  refine then_n ?_
  refine cond_b hS rfl (fun hc0 => ?_) (fun hc0 => ?_)
  ·skip
   have hg : false = decide (n = m ∧ ws = us) := by rw [eq_comm, decide_eq_false_iff_not]; rintro ⟨rfl, _⟩; simp at hc0
   refine wp_seq ?_
   refine region_q hS
     (cF rfl (oN .cb) trivial trivial
     Chain.nil)
     hB ?_
   clear hS; intro a w F hS
   obtain ⟨F, hS⟩ := hS.nm [4, 1, 0] [0] rfl rfl
   refine then_n (wp_ret (then_r ?_))
   refine ret_P hfr hS rfl (.tmp rfl .nil) (.one (.bool hg))
  have hnm : n = m := by simp at hc0; omega
  have hlu : us.length = ws.length := by rw [hI.len, hK.len, hnm]
  have hll : ws.length ≤ 9223372036854775807 := by have := hI.len; have := hI.hi; omega
  refine wp_skip (then_n (wp_seq (wp_seq ?_)))
  refine region_q hS
    (cF rfl (oM .t) r1 trivial
    (cF rfl (o_ref_eql Tryd.underlying72 .t) r1 trivial
    (cF rfl (oM .t) r1 trivial
    (Chain.cons (Cert.cond rfl rfl (fun h => o_move .t (by rfl))) r2 trivial
    (Chain.cons (Cert.cond rfl rfl (fun h => o_ref_eql Tryd.underlying72 (.w h))) r2 trivial
    (cF rfl (o_or2 .t .t) r2 trivial
    Chain.nil))))))
    hB ?_
  clear hS; intro a w F hS
  obtain ⟨F, hS⟩ := hS.nm [16, 4, 1, 0] [0] rfl rfl
  refine then_n ?_
  refine cond_b hS rfl (fun hc1 => ?_) (fun hc1 => ?_)
  ·skip
   simp at hc1
  refine wp_skip (then_n (wp_seq (wp_seq ?_)))
  refine region_q hS
    (cF rfl (oM .t) r1 trivial
    (cF rfl (o_nilCheck_ref .t) r1 trivial
    (cF rfl (oG 1 .t) r1 trivial
    (cF rfl (oR false 1 .t) r1 trivial
    (cF rfl (o_len_sl Tryd.underlying102 .t) r1 trivial
    (cF rfl (oM (.ci (by kernel_rfl))) trivial trivial
    Chain.nil))))))
    hB ?_
  clear hS; intro a w F hS
  obtain ⟨F, hS⟩ := hS.nm [22, 21, 4, 1, 0] [0] rfl rfl
  try dsimp only [List.map, xD, xE, xT, xU, ldSF] at hS
  refine then_n (wp_block ?_)
  refine loop_keep (σ := (Nat)) [0, 1, 4, 21] [0] (fun s => [(22, .pv (.int .i64 (s : Int)))]) (fun s => []) (fun s => s ≤ ws.length ∧ (∀ j, j < s → Go.Gm.nth ws j = Go.Gm.nth us j)) (fun s => ws.length - s) (0) hS ⟨rfl, rfl, rfl, rfl, rfl, trivial⟩ ⟨rfl, trivial⟩ ⟨Nat.zero_le _, fun j hj => absurd hj (Nat.not_lt_zero j)⟩ ?_
  clear hS; intro i a w F hC hS
  try dsimp only at hC
  obtain ⟨F, hS⟩ := hS.nm [22, 21, 4, 1, 0] [0] rfl rfl
  try dsimp only at hS
  obtain ⟨hi, hq⟩ := hC
  refine wp_seq ?_
  refine region_q hS
    (cF rfl (o_lss .t .t) r2 trivial
    Chain.nil)
    hB ?_
  clear hS; intro a w F hS
  obtain ⟨F, hS⟩ := hS.nm [23, 22, 21, 4, 1, 0] [0] rfl rfl
  refine then_n (wp_seq ?_)
  refine cond_b hS rfl (fun hc2 => ?_) (fun hc2 => ?_)
  ·skip
   have hil : i < ws.length := by simp at hc2; omega
   refine wp_skip (then_n (wp_seq (wp_block (wp_seq ?_))))
   refine region_q hS
     (cF rfl (oM .t) r1 trivial
     (cF rfl (oN .t) r1 trivial
     Chain.nil))
     hB ?_
   clear hS; intro a w F hS
   obtain ⟨F, hS⟩ := hS.nm [24, 23, 22, 21, 5, 4, 1, 0] [0] rfl rfl
   refine then_n (wp_seq ?_)
   refine region_any (by kernel_rfl) hS (by kernel_rfl)
     (cF rfl (oM .t) r1 trivial
     (cF rfl (o_nilCheck_ref .t) r1 trivial
     (cF rfl (oG 1 .t) r1 trivial
     (cF rfl (oR false 1 .t) r1 trivial
     (cF rfl (oM .t) r1 trivial
     (cF rfl (o_indexAddr_sl (sz := 1) (.mk Tryd.underlying102 (by kernel_rfl)) (by intro x; rfl) .t .t (by first | assumption | omega) (by first | assumption | omega)) r2 trivial
     (cF rfl (oR false 1 .t) r1 trivial
     (cF rfl (oM .t) r1 trivial
     (cF rfl (o_nilCheck_ref .t) r1 trivial
     (cF rfl (oG 1 .t) r1 trivial
     (cF rfl (oR false 1 .t) r1 trivial
     (cF rfl (oM .t) r1 trivial
     (cF rfl (o_indexAddr_sl (sz := 1) (.mk Tryd.underlying102 (by kernel_rfl)) (by intro x; rfl) .t .t (by omega) (by omega)) r2 trivial
     (cF rfl (oR false 1 .t) r1 trivial
     (cF rfl (o_neq .t .t) r2 trivial
     Chain.nil)))))))))))))))
     (by kernel_rfl) (by rw [hB]; kernel_rfl) ?_
   clear hS; intro a w F hS
   obtain ⟨F, hS⟩ := hS.nm [39, 38, 37, 36, 35, 34, 33, 32, 31, 30, 29, 28, 27, 26, 25, 24, 23, 22, 21, 5, 4, 1, 0] [0] rfl rfl
   try dsimp only [List.map, xD, xE, xT, xU, ldSF] at hS
   try simp only [Int.toNat_natCast] at hS
   refine then_n ?_
   refine cond_b hS rfl (fun hc3 => ?_) (fun hc3 => ?_)
   ·skip
    have hg : false = decide (n = m ∧ ws = us) := by
      rw [eq_comm, decide_eq_false_iff_not]
      rintro ⟨_, rfl⟩
      simp at hc3
    refine wp_seq ?_
    refine region_q hS
      (cF rfl (oN .cb) trivial trivial
      Chain.nil)
      hB ?_
    clear hS; intro a w F hS
    obtain ⟨F, hS⟩ := hS.nm [39, 38, 37, 36, 35, 34, 33, 32, 31, 30, 29, 28, 27, 26, 25, 24, 23, 22, 21, 5, 4, 1, 0] [0] rfl rfl
    refine then_n (wp_ret (block_r (then_r (then_r (block_r (then_r ?_))))))
    refine ret_P hfr hS rfl (.tmp rfl .nil) (.one (.bool hg))
   have hqi : Go.Gm.nth ws i = Go.Gm.nth us i := by simpa using hc3
   refine wp_skip (block_n (then_n ?_))
   refine region_q hS
     (cF rfl (o_add .t (.ci (by kernel_rfl))) r1 trivial
     (cF rfl (oM .t) r1 trivial
     Chain.nil))
     hB ?_
   clear hS; intro a w F hS
   obtain ⟨F, hS⟩ := hS.nm [40, 39, 38, 37, 36, 35, 34, 33, 32, 31, 30, 29, 28, 27, 26, 25, 24, 23, 22, 21, 5, 4, 1, 0] [0] rfl rfl
   refine then_n ?_
   replace hS := hS.ent (i := 22) (s' := .pv (.int .i64 ((i + 1 : Nat) : Int))) rfl (.int (wrap_succ (by omega)))
   obtain ⟨F, hS⟩ := hS.nm [21, 4, 1, 0, 22] [0] rfl rfl
   exact ⟨(i + 1), F, ⟨by omega, fun j hj => by rcases Nat.lt_or_eq_of_le (Nat.le_of_lt_succ hj) with h | h; exact hq j h; rw [h]; exact hqi⟩, hS, by omega⟩
  have hil : i = ws.length := by simp at hc2; omega
  have hg : true = decide (n = m ∧ ws = us) := by
    rw [eq_comm, decide_eq_true_eq]
    exact ⟨hnm, list_same hlu.symm fun j hj => hq j (by omega)⟩
  refine wp_exit (then_x (then_x (block_x (then_n (wp_seq ?_)))))
  refine region_q hS
    (cF rfl (oN .cb) trivial trivial
    Chain.nil)
    hB ?_
  clear hS; intro a w F hS
  obtain ⟨F, hS⟩ := hS.nm [4] [0] rfl rfl
  refine then_n (wp_ret ?_)
  refine ret_P hfr hS rfl (.tmp rfl .nil) (.one (.bool hg))

theorem sameW_nil (n : Nat) (p : PV) : FnP Tryd.prog 52 [.ref [.int .i64 n, p], .is (.pointer none)] (.bool (decide (n = 0))) := by
  refine FnP.mk Tryd.func52 rfl Tryd.ntmps52 rfl ?_
  intro B a w F hB hfr hS
  refine wp_seq ?_
  refine region_q hS
    (cF rfl (oN .cb) trivial trivial
    Chain.nil)
    hB ?_
  clear hS; intro a w F hS
  obtain ⟨F, hS⟩ := hS.nm [4, 1, 0] [0] rfl rfl
  refine then_n (wp_seq (wp_seq ?_))
  refine region_q hS
    (cF rfl (oM .t) r1 trivial
    (cF rfl (oP (rlen_c n _) Tryd.func68 (Args.one .t)) r1 trivial
    (cF rfl (oM .t) r1 trivial
    (cF rfl (oP (rlen_nil) Tryd.func68 (Args.one .t)) r1 trivial
    (cF rfl (o_neq .t .t) r2 trivial
    Chain.nil)))))
    hB ?_
  clear hS; intro a w F hS
  obtain ⟨F, hS⟩ := hS.nm [10, 4, 1, 0] [0] rfl rfl
  refine then_n ?_
  refine cond_b hS rfl (fun hc0 => ?_) (fun hc0 => ?_)
  ·skip
   have hg : false = decide (n = 0) := by simp at hc0; rw [eq_comm, decide_eq_false_iff_not]; omega
   refine wp_seq ?_
   refine region_q hS
     (cF rfl (oN .cb) trivial trivial
     Chain.nil)
     hB ?_
   clear hS; intro a w F hS
   obtain ⟨F, hS⟩ := hS.nm [4, 1, 0] [0] rfl rfl
   refine then_n (wp_ret (then_r ?_))
   refine ret_P hfr hS rfl (.tmp rfl .nil) (.one (.bool hg))
  have hg : true = decide (n = 0) := by simp at hc0; rw [eq_comm, decide_eq_true_eq]; omega
  refine wp_skip (then_n (wp_seq (wp_seq ?_)))
  refine region_q hS
    (cF rfl (oM .t) r1 trivial
    (cF rfl (o_ref_eql Tryd.underlying72 .t) r1 trivial
    (cF rfl (oM .t) r1 trivial
    (Chain.cons (Cert.cond rfl rfl (fun h => o_move .t (by rfl))) r2 trivial
    (Chain.cons (Cert.cond rfl rfl (fun h => o_nil_eql _ Tryd.underlying72 rfl (.w h))) r2 trivial
    (cF rfl (o_or2 .t .t) r2 trivial
    Chain.nil))))))
    hB ?_
  clear hS; intro a w F hS
  obtain ⟨F, hS⟩ := hS.nm [16, 4, 1, 0] [0] rfl rfl
  refine then_n ?_
  refine cond_b hS rfl (fun hc1 => ?_) (fun hc1 => ?_)
  ·skip
   refine wp_seq ?_
   refine region_q hS
     (cF rfl (oN .cb) trivial trivial
     Chain.nil)
     hB ?_
   clear hS; intro a w F hS
   obtain ⟨F, hS⟩ := hS.nm [4, 1, 0] [0] rfl rfl
   refine then_n (wp_ret (then_r ?_))
   refine ret_P hfr hS rfl (.tmp rfl .nil) (.one (.bool hg))
  simp at hc1

theorem sameS_c (n m : Nat) (x z : List Int) : FnP Tryd.prog 52 [setR n x, setR m z] (.bool (decide (n = m ∧ x = z))) := FnP.ofWords2 fun ws us hs ks => by
  have e : decide (n = m ∧ x = z) = decide (n = m ∧ ws = us) := by
    rw [decide_eq_decide]
    constructor
    · rintro ⟨rfl, h⟩; exact ⟨rfl, by have := hs.same ks; rw [decide_eq_decide] at this; exact this.2 h⟩
    · rintro ⟨rfl, h⟩; exact ⟨rfl, by have := hs.same ks; rw [decide_eq_decide] at this; exact this.1 h⟩
  rw [e]; exact (sameW_c n m ws us hs.ok ks.ok).glob
theorem sameS_nil (n : Nat) (x : List Int) : FnP Tryd.prog 52 [setR n x, .is (.pointer none)] (.bool (decide (n = 0))) := FnP.ofWords fun ws hs => (sameW_nil n _).glob

end Go.Proofs.YtpahapjcdldodaaDoor
