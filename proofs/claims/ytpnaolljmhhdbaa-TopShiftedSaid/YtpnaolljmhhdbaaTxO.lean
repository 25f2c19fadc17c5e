/- Right operations, versions of reads, texts. No condition beyond those that each theorem says. -/
import Derived.Test.YtpnaolljmhhdbaaTx1
import Derived.Test.YtpnaolljmhhdbaaPk2
namespace Go.Proofs.Ytpnaolljmhhdbaa
open Go Go.Gm
set_option linter.unusedVariables false
set_option linter.unusedSimpArgs false
set_option maxHeartbeats 4000000
set_option maxRecDepth 8000

def rightO (o : OpD) : Bool := if o.read = true then rightV ⟨o.tx, o.key, o.nth⟩ else (idB o.key && decide (o.tx = 0)) && decide (o.nth = 0)
def ofO (o : OpD) : VerD := if o.read = true then ⟨o.tx, o.key, o.nth⟩ else noV

def rightN (o : OpD) : Int := if rightO o = true then 0 else 1
theorem right_rng {o : OpD} (h : rightO o = true) : (1 ≤ o.key ∧ o.key ≤ 1048575) ∧ (0 ≤ o.tx ∧ o.tx ≤ 1048575) ∧ (0 ≤ o.nth ∧ o.nth ≤ 4095) := by
  unfold rightO at h
  split at h
  · unfold rightV at h
    dsimp only at h
    split at h <;> simp only [Bool.and_eq_true, decide_eq_true_eq, idB_iff] at h <;> omega
  · simp only [Bool.and_eq_true, decide_eq_true_eq, idB_iff] at h
    omega
theorem right_read {o : OpD} (h : o.read = true) : rightO o = rightV (ofO o) := by unfold rightO ofO; rw [if_pos h, if_pos h]
theorem right_write {o : OpD} (h : o.read = false) : rightO o = ((idB o.key && decide (o.tx = 0)) && decide (o.nth = 0)) := by unfold rightO; rw [if_neg (by rw [h]; decide)]
theorem verR_right (v : VerD) : (verR v).2 = if rightV v = true then 0 else 1 := by unfold verR; split <;> rfl

theorem opOf_c (o : OpD) : FnP Try.prog 77 [.agg (rOp o)] (.agg (rVer (ofO o))) := by
  refine FnP.mk Try.func77 rfl Try.ntmps77 rfl ?_
  intro B a w F hB hfr hS
  refine wp_seq ?_
  refine region_q hS
    (cF rfl (oX 101 (.conv .t .agg)) r1 trivial
    (cF rfl (oH [.int .i64 0, .int .i64 0, .int .i64 0] 102) trivial trivial
    Chain.nil))
    hB ?_
  clear hS; intro a w F hS
  replace hS := hS.sub
  obtain ⟨F, hS⟩ := hS.nm [2, 1] [102, 101, 0] rfl rfl
  try dsimp only [RS.sub, SF.sub, CF.sub, csub, Anc.sub, List.map, zCF] at hS
  generalize Act.tau a 1 = v1 at hS
  generalize Act.tau a 2 = v2 at hS
  refine then_n (wp_seq (wp_seq ?_))
  refine region_q hS
    (cF rfl (oF 0 101 .is) r1 r1
    (cF rfl (oL false 1 101 .adr) r1 r1
    (cF rfl (o_not .t) r1 trivial
    Chain.nil)))
    hB ?_
  clear hS; intro a w F hS
  obtain ⟨F, hS⟩ := hS.nm [5, 2, 1] [102, 101, 0] rfl rfl
  try dsimp only [List.map, xD, xE, xT, xU, ldSF] at hS
  refine then_n ?_
  refine cond_b hS rfl (fun hc0 => ?_) (fun hc0 => ?_)
  ·skip
   have hr : o.read = false := by simpa using hc0
   refine wp_seq ?_
   refine region_q hS
     (cF rfl (oB [] [.int .i64 0, .int .i64 0, .int .i64 0] [(0, 1), (1, 1), (2, 1)] .nil) trivial trivial
     (cF rfl (oA 3 102 .is .t) r2 r1
     Chain.nil))
     hB ?_
   clear hS; intro a w F hS
   obtain ⟨F, hS⟩ := hS.nm [2, 1] [102, 101, 0] rfl rfl
   try dsimp only [List.map, stCells, xL, xM, Nat.reduceAdd, xD, xE, xT, xU, xC, xN, zCF] at hS
   refine then_n (wp_ret (then_r ?_))
   refine ret_P hfr hS rfl (.cell (n := 102) (ag := true) (sz := 3) rfl .is rfl (by kernel_rfl) (by kernel_rfl) (by kernel_rfl) .nil) (.one (.aggU rfl (by unfold ofO; rw [hr]; rfl)))
  have hr : o.read = true := by simpa using hc0
  refine wp_skip (then_n (wp_seq ?_))
  refine region_q hS
    (cF rfl (oF 2 101 .is) r1 r1
    (cF rfl (oL false 1 101 .adr) r1 r1
    (cF rfl (oF 1 101 .is) r1 r1
    (cF rfl (oL false 1 101 .adr) r1 r1
    (cF rfl (oF 3 101 .is) r1 r1
    (cF rfl (oL false 1 101 .adr) r1 r1
    (cF rfl (oB [(0, .tmp 8), (1, .tmp 10), (2, .tmp 12)] [.int .i64 0, .int .i64 0, .int .i64 0] [(0, 1), (1, 1), (2, 1)] (.one rfl .t one_int (by kernel_rfl) (.one rfl .t one_int (by kernel_rfl) (.one rfl .t one_int (by kernel_rfl) .nil)))) r3 trivial
    (cF rfl (oA 3 102 .is .t) r2 r1
    Chain.nil))))))))
    hB ?_
  clear hS; intro a w F hS
  obtain ⟨F, hS⟩ := hS.nm [2] [102, 101, 0] rfl rfl
  try dsimp only [List.map, stCells, xL, xM, Nat.reduceAdd, xD, xE, xT, xU, xC, xN, zCF, ldSF] at hS
  refine then_n (wp_ret ?_)
  refine ret_P hfr hS rfl (.cell (n := 102) (ag := true) (sz := 3) rfl .is rfl (by kernel_rfl) (by kernel_rfl) (by kernel_rfl) .nil) (.one (.aggU rfl (by unfold ofO; rw [hr]; rfl)))

theorem opRight_c (o : OpD) : FnP Try.prog 54 [.agg (rOp o)] (.int .i64 (rightN o)) := by
  refine FnP.mk Try.func54 rfl Try.ntmps54 rfl ?_
  intro B a w F hB hfr hS
  refine wp_seq ?_
  refine region_q hS
    (cF rfl (oX 101 (.conv .t .agg)) r1 trivial
    (cF rfl (oN (.ci (by kernel_rfl))) trivial trivial
    Chain.nil))
    hB ?_
  clear hS; intro a w F hS
  replace hS := hS.sub
  obtain ⟨F, hS⟩ := hS.nm [2, 1] [101, 0] rfl rfl
  try dsimp only [RS.sub, SF.sub, CF.sub, csub, Anc.sub, List.map, zCF] at hS
  generalize Act.tau a 1 = v1 at hS
  refine then_n (wp_seq (wp_seq ?_))
  refine region_q hS
    (cF rfl (oF 0 101 .is) r1 r1
    (cF rfl (oL false 1 101 .adr) r1 r1
    Chain.nil))
    hB ?_
  clear hS; intro a w F hS
  obtain ⟨F, hS⟩ := hS.nm [6, 2, 1] [101, 0] rfl rfl
  try dsimp only [List.map, xD, xE, xT, xU, ldSF] at hS
  refine then_n ?_
  refine cond_b hS rfl (fun hc0 => ?_) (fun hc0 => ?_)
  ·skip
   have hg : (verR (ofO o)).2 = rightN o := by rw [verR_right]; unfold rightN; rw [right_read hc0]
   refine wp_seq ?_
   refine region_q hS
     (cF rfl (oL true 4 101 .is) r1 r1
     (cF rfl (oP (opOf_c o) Try.func77 (Args.one (.pagg .t))) r1 trivial
     (cF rfl (oP (version_c (ofO o)) Try.func76 (Args.one .t)) r1 trivial
     (cF rfl (oM .t) r1 trivial
     (cF rfl (o_extract .t rfl) r1 trivial
     (cF rfl (o_extract .t rfl) r1 trivial
     (cF rfl (oN .t) r1 trivial
     (cF rfl (oN .t) r1 trivial
     Chain.nil))))))))
     hB ?_
   clear hS; intro a w F hS
   obtain ⟨F, hS⟩ := hS.nm [4, 2, 1] [101, 0] rfl rfl
   try dsimp only [List.map, xD, xE, xT, xU, ldSF] at hS
   refine then_n (wp_seq ?_)
   refine region_q hS
     (cF rfl (oM .t) r1 trivial
     (cF rfl (oN .t) r1 trivial
     Chain.nil))
     hB ?_
   clear hS; intro a w F hS
   obtain ⟨F, hS⟩ := hS.nm [2, 1] [101, 0] rfl rfl
   refine then_n (wp_ret (then_r ?_))
   refine ret_P hfr hS rfl (.tmp rfl .nil) (.one (.int hg))
  have hr : o.read = false := hc0
  refine wp_skip (then_n (wp_seq (wp_seq ?_)))
  refine region_q hS
    (cF rfl (oL true 4 101 .is) r1 r1
    (cF rfl (oF 1 101 .is) r1 r1
    (cF rfl (oL false 1 101 .adr) r1 r1
    (cF rfl (oB [(1, .tmp 16)] [.bool false, .int .i64 0, .int .i64 0, .int .i64 0] [(0, 1), (1, 1), (2, 1), (3, 1)] (.one rfl .t one_int (by kernel_rfl) .nil)) r1 trivial
    (cF rfl (o_neqS (ks := [false, true, true, true]) (by kernel_rfl) .t .t (.bool (.int (.int (.int .nil))))) r2 trivial
    (cF rfl (oM .t) r1 trivial
    (Chain.cons (Cert.cond rfl rfl (fun h => o_fieldAddr (off := 1) 101 .is (by kernel_rfl) (by rfl))) r2 r1
    (Chain.cons (Cert.cond rfl rfl (fun h => o_load (ag := false) (sz := 1) 101 (.w h .adr) (by kernel_rfl) (by kernel_rfl) (by kernel_rfl) (by rfl))) r2 r1
    (Chain.cons (Cert.cond rfl rfl (fun h => o_lss (.w h) (.ci (by kernel_rfl)))) r2 trivial
    (cF rfl (o_or2 .t .t) r2 trivial
    (cF rfl (oM .t) r1 trivial
    (Chain.cons (Cert.cond rfl rfl (fun h => o_fieldAddr (off := 1) 101 .is (by kernel_rfl) (by rfl))) r2 r1
    (Chain.cons (Cert.cond rfl rfl (fun h => o_load (ag := false) (sz := 1) 101 (.w h .adr) (by kernel_rfl) (by kernel_rfl) (by kernel_rfl) (by rfl))) r2 r1
    (Chain.cons (Cert.cond rfl rfl (fun h => o_gtr (.w h) (.ci (by kernel_rfl)))) r2 trivial
    (cF rfl (o_or2 .t .t) r2 trivial
    Chain.nil)))))))))))))))
    hB ?_
  clear hS; intro a w F hS
  obtain ⟨F, hS⟩ := hS.nm [28, 2] [101, 0] rfl rfl
  try dsimp only [List.map, stCells, xL, xM, Nat.reduceAdd, xD, xE, xT, xU, xC, xN, zCF, ldSF] at hS
  refine then_n ?_
  refine cond_b hS rfl (fun hc1 => ?_) (fun hc1 => ?_)
  ·skip
   have hg : (1 : Int) = rightN o := by
     unfold rightN
     rw [if_neg]
     rw [right_write hr]
     simp [hr, idB] at hc1 ⊢
     omega
   refine wp_seq ?_
   refine region_q hS
     (cF rfl (oN (.ci (by kernel_rfl))) trivial trivial
     Chain.nil)
     hB ?_
   clear hS; intro a w F hS
   obtain ⟨F, hS⟩ := hS.nm [2] [101, 0] rfl rfl
   refine then_n (wp_ret (then_r ?_))
   refine ret_P hfr hS rfl (.tmp rfl .nil) (.one (.int hg))
  have hg : (0 : Int) = rightN o := by
    unfold rightN
    rw [if_pos]
    rw [right_write hr]
    simp [hr, idB] at hc1 ⊢
    omega
  refine wp_skip (then_n (wp_seq ?_))
  refine region_q hS
    (cF rfl (oN (.ci (by kernel_rfl))) trivial trivial
    Chain.nil)
    hB ?_
  clear hS; intro a w F hS
  obtain ⟨F, hS⟩ := hS.nm [2] [101, 0] rfl rfl
  refine then_n (wp_ret ?_)
  refine ret_P hfr hS rfl (.tmp rfl .nil) (.one (.int hg))

end Go.Proofs.Ytpnaolljmhhdbaa
