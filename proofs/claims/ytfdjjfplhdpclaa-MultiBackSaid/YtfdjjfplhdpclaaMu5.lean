/- Bags: Add. No condition beyond those that each theorem says. -/
import Derived.Test.YtfdjjfplhdpclaaMu4
namespace Go.Proofs.Ytfdjjfplhdpclaa
open Go Go.Gm
set_option linter.unusedVariables false
set_option linter.unusedSimpArgs false
set_option maxHeartbeats 4000000
set_option maxRecDepth 8000


theorem madd_c (b : Nat) (bg : List HvD) (e : EdgeD) (n : Int) (hlen : bg.length < 100000) : FnG Try.prog 10 1 [.is (.pointer (some ⟨b, 0, none⟩)), .agg (rEdge e), .int .i64 n] [mulH (.pointer (some ⟨b, 0, none⟩)) bg] (.int .i64 (addB bg e n).2) (fun _ => [mulH (.pointer (some ⟨b, 0, none⟩)) (addB bg e n).1]) := by
  refine FnG.mk Try.func10 rfl Try.ntmps10 rfl (by kernel_rfl) ?_
  intro B F0 a w F hB hG hS
  obtain ⟨hB0, _⟩ := mulH_ok (show (mulH (.pointer (some ⟨b, 0, none⟩)) bg).p _ _ _ from hS.r 1 _ rfl)
  refine wp_seq ?_
  refine region_q hS
    (cF rfl (oX 101 (.conv .t .agg)) r1 trivial
    (cF rfl (oN (.ci (by kernel_rfl))) trivial trivial
    Chain.nil))
    hB ?_
  clear hS; intro a w F hS
  replace hS := hS.sub
  obtain ⟨F, hS⟩ := hS.nm [6, 4, 2, 0] [101, 1, 0] rfl rfl
  try dsimp only [RS.sub, SF.sub, CF.sub, csub, Anc.sub, List.map, zCF, rEdge] at hS
  generalize Act.tau a 4 = v4 at hS
  refine then_n (wp_seq ?_)
  refine region_q hS
    (cF rfl (oL true 4 101 .is) r1 r1
    (cF rfl (oP (edge_c e) Try.func24 (Args.one (.pagg .t))) r1 trivial
    (cF rfl (oM .t) r1 trivial
    (cF rfl (o_extract .t rfl) r1 trivial
    (cF rfl (o_extract .t rfl) r1 trivial
    (cF rfl (oN .t) r1 trivial
    (cF rfl (oN .t) r1 trivial
    Chain.nil)))))))
    hB ?_
  clear hS; intro a w F hS
  obtain ⟨F, hS⟩ := hS.nm [8, 7, 6, 4, 2, 0] [101, 1, 0] rfl rfl
  try dsimp only [List.map, xD, xE, xT, xU, ldSF, rEdge] at hS
  refine then_n (wp_seq (wp_seq ?_))
  refine region_q hS
    (cF rfl (oM .t) r1 trivial
    (cF rfl (o_neq .t (.ci (by kernel_rfl))) r1 trivial
    Chain.nil))
    hB ?_
  clear hS; intro a w F hS
  obtain ⟨F, hS⟩ := hS.nm [16, 8, 7, 6, 4, 2, 0] [101, 1, 0] rfl rfl
  try dsimp only [rEdge] at hS
  refine then_n ?_
  refine cond_b hS rfl (fun hc0 => ?_) (fun hc0 => ?_)
  ·skip
   have hr : rightB e = false := by cases hr : rightB e with | false => rfl | true => simp [edgeR_yes hr] at hc0
   rw [edgeR_no hr] at hS
   have hg : (addB bg e n) = (bg, 1) := by unfold addB; rw [if_neg (by rw [hr]; decide)]
   refine wp_seq ?_
   refine region_q hS
     (cF rfl (oM .t) r1 trivial
     (cF rfl (oN .t) r1 trivial
     Chain.nil))
     hB ?_
   clear hS; intro a w F hS
   obtain ⟨F, hS⟩ := hS.nm [7, 6, 4, 2, 0] [101, 1, 0] rfl rfl
   try dsimp only [rEdge] at hS
   refine then_n (wp_ret (then_r ?_))
   have hS := hS.turn 1 rfl (r' := RS.hp (mulH (.pointer (some ⟨b, 0, none⟩)) (addB bg e n).1)) (by rw [hg]; exact fun _ _ _ _ h => h)
   refine ret_G1 hG hS rfl (.tmp rfl .nil) (.one (.int (by rw [hg]))) rfl
  have hr : rightB e = true := by cases hr : rightB e with | true => rfl | false => simp [edgeR_no hr] at hc0
  rw [edgeR_yes hr] at hS
  dsimp only at hS
  have hcb := cntB_bd hB0 e
  refine wp_skip (then_n (wp_seq ?_))
  refine region_q hS
    (cF rfl (oM .t) r1 trivial
    (cF rfl (oL true 4 101 .is) r1 r1
    (cF rfl (o_callG1 1 (mcount_c b bg e) Try.func14 rfl (by kernel_rfl) (Args.two .t (.pagg .t))) r2 r1
    (cF rfl (oN .t) r1 trivial
    Chain.nil))))
    hB ?_
  clear hS; intro a w F hS
  obtain ⟨F, hS⟩ := hS.nm [9, 7, 6, 4, 2, 0] [101, 1, 0] rfl rfl
  try dsimp only [List.map, xD, xE, xT, xU, ldSF, rEdge] at hS
  refine then_n (wp_seq (wp_block (wp_seq ?_)))
  refine region_q hS
    (cF rfl (oM .t) r1 trivial
    (cF rfl (oM .t) r1 trivial
    (cF rfl (o_neg .t) r1 trivial
    (cF rfl (o_lss .t .t) r2 trivial
    (cF rfl (oN .t) r1 trivial
    Chain.nil)))))
    hB ?_
  clear hS; intro a w F hS
  obtain ⟨F, hS⟩ := hS.nm [21, 9, 7, 6, 4, 2, 0] [101, 1, 0] rfl rfl
  try dsimp only [rEdge] at hS
  rw [show IntKind.wrap .i64 (0 - cntB bg e) = -cntB bg e from by rw [wrap_i64 (by omega)]; omega] at hS
  refine then_n ?_
  refine cond_b hS rfl (fun hc1 => ?_) (fun hc1 => ?_)
  ·skip
   have hc1 : n < -cntB bg e := by simpa using hc1
   have hg : (addB bg e n) = (bg, 3) := by unfold addB; rw [if_pos hr, if_pos hc1]
   refine wp_seq ?_
   refine region_q hS
     (cF rfl (oN (.ci (by kernel_rfl))) trivial trivial
     Chain.nil)
     hB ?_
   clear hS; intro a w F hS
   obtain ⟨F, hS⟩ := hS.nm [9, 7, 6, 4, 2, 0] [101, 1, 0] rfl rfl
   try dsimp only [rEdge] at hS
   refine then_n (wp_ret (block_r (then_r ?_)))
   have hS := hS.turn 1 rfl (r' := RS.hp (mulH (.pointer (some ⟨b, 0, none⟩)) (addB bg e n).1)) (by rw [hg]; exact fun _ _ _ _ h => h)
   refine ret_G1 hG hS rfl (.tmp rfl .nil) (.one (.int (by rw [hg]))) rfl
  have hc1 : ¬ n < -cntB bg e := by simpa using hc1
  refine wp_seq ?_
  refine region_q hS
    (cF rfl (oM .t) r1 trivial
    (cF rfl (oM .t) r1 trivial
    (cF rfl (o_sub (.ci (by kernel_rfl)) .t) r1 trivial
    (cF rfl (o_gtr .t .t) r2 trivial
    (cF rfl (oN .t) r1 trivial
    Chain.nil)))))
    hB ?_
  clear hS; intro a w F hS
  obtain ⟨F, hS⟩ := hS.nm [26, 9, 7, 6, 4, 2, 0] [101, 1, 0] rfl rfl
  try dsimp only [rEdge] at hS
  rw [show IntKind.wrap .i64 (2147483647 - cntB bg e) = 2147483647 - cntB bg e from wrap_i64 (by omega)] at hS
  refine then_n ?_
  refine cond_b hS rfl (fun hc2 => ?_) (fun hc2 => ?_)
  ·skip
   have hc2 : 2147483647 - cntB bg e < n := by simpa using hc2
   have hg : (addB bg e n) = (bg, 2) := by unfold addB; rw [if_pos hr, if_neg hc1, if_pos hc2]
   refine wp_seq ?_
   refine region_q hS
     (cF rfl (oN (.ci (by kernel_rfl))) trivial trivial
     Chain.nil)
     hB ?_
   clear hS; intro a w F hS
   obtain ⟨F, hS⟩ := hS.nm [9, 7, 6, 4, 2, 0] [101, 1, 0] rfl rfl
   try dsimp only [rEdge] at hS
   refine then_n (wp_ret (block_r (then_r ?_)))
   have hS := hS.turn 1 rfl (r' := RS.hp (mulH (.pointer (some ⟨b, 0, none⟩)) (addB bg e n).1)) (by rw [hg]; exact fun _ _ _ _ h => h)
   refine ret_G1 hG hS rfl (.tmp rfl .nil) (.one (.int (by rw [hg]))) rfl
  have hc2 : ¬ 2147483647 - cntB bg e < n := by simpa using hc2
  refine wp_seq ?_
  refine region_q hS
    (cF rfl (oM .t) r1 trivial
    (cF rfl (o_nil_eql _ Try.underlying26 rfl .t) r1 trivial
    (cF rfl (oN .t) r1 trivial
    Chain.nil)))
    hB ?_
  clear hS; intro a w F hS
  obtain ⟨F, hS⟩ := hS.nm [31, 9, 7, 6, 4, 2, 0] [101, 1, 0] rfl rfl
  try dsimp only [rEdge] at hS
  refine then_n ?_
  refine cond_b hS rfl (fun hc3 => ?_) (fun hc3 => ?_)
  ·skip
   simp at hc3
  obtain ⟨N, hNe⟩ : ∃ z, z = cntB bg e + n := ⟨_, rfl⟩
  have hN : 0 ≤ N ∧ N ≤ 2147483647 := by omega
  have hg : (addB bg e n) = (putB bg e N, 0) := by unfold addB; rw [if_pos hr, if_neg hc1, if_neg hc2, hNe]
  obtain ⟨s, hS⟩ := hS.open_ex 1 rfl
  obtain ⟨hk, hS⟩ := hS.open_and 1 rfl
  obtain ⟨F, hS⟩ := hS.peel 1 2 rfl rfl
  obtain ⟨F, hS⟩ := hS.peel 1 3 rfl rfl
  obtain ⟨F, hS⟩ := hS.peel 1 4 rfl rfl
  obtain ⟨F, hS⟩ := hS.peel 1 5 rfl rfl
  have hB9 := hk.bag
  have hlB := hk.len
  have hcl := hk.cnt.len hk.bag
  obtain ⟨F, hS⟩ := hS.nm [31, 9, 7, 6, 4, 2, 0] [101, 5, 4, 3, 2, 0] rfl rfl
  refine wp_skip (block_n (then_n (wp_seq ?_)))
  refine region_q hS
    (cF rfl (oM .t) r1 trivial
    (cF rfl (o_nilCheck 2 .is (by rfl)) r1 r1
    (cF rfl (oF 0 2 .adr) r1 r1
    (cF rfl (oL false 1 2 .adr) r1 r1
    (cF rfl (oM .t) r1 trivial
    (cF rfl (oM .t) r1 trivial
    (cF rfl (oM .t) r1 trivial
    (cF rfl (o_add .t .t) r2 trivial
    (cF rfl (o_conv Try.underlying21 (by kernel_rfl) .t) r1 trivial
    (cF rfl (o_mapUpdateG (ek := (fun c : Int => PV.int .i32 c)) (v := (N : Int)) 3 Try.underlying52 (key_intG Try.underlying49) .is (IsKeyOf.intU .t rfl) (.conv .t (Ent.int (by rw [wrap_i64 (by omega), wrap_i32' (by omega), hNe])))) r3 r1
    Chain.nil))))))))))
    hB ?_
  clear hS; intro a w F hS
  obtain ⟨F, hS⟩ := hS.nm [9, 7, 6, 4, 2, 0] [101, 5, 4, 3, 2, 0] rfl rfl
  try dsimp only [List.map, xD, xE, xT, xU, ldSF, rEdge] at hS
  refine then_n (wp_seq ?_)
  refine region_any (by kernel_rfl) hS (by kernel_rfl)
    (cF rfl (oM .t) r1 trivial
    (cF rfl (o_nilCheck 2 .is (by rfl)) r1 r1
    (cF rfl (oF 1 2 .adr) r1 r1
    (cF rfl (oL false 1 2 .adr) r1 r1
    (cF rfl (oF 0 101 .is) r1 r1
    (cF rfl (oL false 1 101 .adr) r1 r1
    (cF rfl (oM .t) r1 trivial
    (cF rfl (oM .t) r1 trivial
    (cF rfl (oM .t) r1 trivial
    (cF rfl (o_add .t .t) r2 trivial
    (cF rfl (o_gtr .t (.ci (by kernel_rfl))) r1 trivial
    (cF rfl (o_callG1 4 (set_c s.ov (outF bg) e.src (edgeN e) (decide (0 < N)) (nums_inc hB9) (Nat.le_trans (nums_len _ _) (by omega))) Try.func25 rfl (by kernel_rfl) (Args.four .t .t .t (.conv .t (Ent.bool (by rw [wrap_i64 (by omega), hNe]))))) r4 r1
    Chain.nil))))))))))))
    (by kernel_rfl) (by rw [hB]; kernel_rfl) ?_
  clear hS; intro a w F hS
  obtain ⟨F, hS⟩ := hS.nm [9, 7, 6, 4, 2, 0] [101, 5, 4, 3, 2, 0] rfl rfl
  try dsimp only [List.map, xD, xE, xT, xU, ldSF, rEdge] at hS
  rw [outF_put hB9 hr hN] at hS
  refine then_n (wp_seq ?_)
  refine region_any (by kernel_rfl) hS (by kernel_rfl)
    (cF rfl (oM .t) r1 trivial
    (cF rfl (o_nilCheck 2 .is (by rfl)) r1 r1
    (cF rfl (oF 2 2 .adr) r1 r1
    (cF rfl (oL false 1 2 .adr) r1 r1
    (cF rfl (oF 1 101 .is) r1 r1
    (cF rfl (oL false 1 101 .adr) r1 r1
    (cF rfl (oM .t) r1 trivial
    (cF rfl (oM .t) r1 trivial
    (cF rfl (oM .t) r1 trivial
    (cF rfl (o_add .t .t) r2 trivial
    (cF rfl (o_gtr .t (.ci (by kernel_rfl))) r1 trivial
    (cF rfl (o_callG1 5 (set_c s.iv (inF bg) e.dst (edgeN e) (decide (0 < N)) (nums_inc hB9) (Nat.le_trans (nums_len _ _) (by omega))) Try.func25 rfl (by kernel_rfl) (Args.four .t .t .t (.conv .t (Ent.bool (by rw [wrap_i64 (by omega), hNe]))))) r4 r1
    Chain.nil))))))))))))
    (by kernel_rfl) (by rw [hB]; kernel_rfl) ?_
  clear hS; intro a w F hS
  obtain ⟨F, hS⟩ := hS.nm [9, 7, 6, 2, 0] [5, 4, 3, 2, 0] rfl rfl
  try dsimp only [List.map, xD, xE, xT, xU, ldSF, rEdge] at hS
  rw [inF_put hB9 hr hN] at hS
  refine then_n (wp_seq (wp_seq ?_))
  refine region_q hS
    (cF rfl (oM .t) r1 trivial
    (cF rfl (oM .t) r1 trivial
    (cF rfl (o_add .t .t) r2 trivial
    (cF rfl (o_eql .t (.ci (by kernel_rfl))) r1 trivial
    Chain.nil))))
    hB ?_
  clear hS; intro a w F hS
  obtain ⟨F, hS⟩ := hS.nm [70, 7, 6, 0] [5, 4, 3, 2, 0] rfl rfl
  try dsimp only [rEdge] at hS
  refine then_n ?_
  refine cond_b hS rfl (fun hc4 => ?_) (fun hc4 => ?_)
  ·skip
   have hz : N = 0 := by have h9 := hc4; rw [wrap_i64 (by omega)] at h9; rw [hNe]; simpa using h9
   refine region_q hS
     (cF rfl (oM .t) r1 trivial
     (cF rfl (o_nilCheck 2 .is (by rfl)) r1 r1
     (cF rfl (oF 0 2 .adr) r1 r1
     (cF rfl (oL false 1 2 .adr) r1 r1
     (cF rfl (oM .t) r1 trivial
     (cF rfl (o_deleteG 3 Try.underlying52 (key_intG Try.underlying49) .is (IsKeyOf.intU .t rfl)) r2 r1
     Chain.nil))))))
     hB ?_
   clear hS; intro a w F hS
   obtain ⟨F, hS⟩ := hS.nm [6] [5, 4, 3, 2, 0] rfl rfl
   try dsimp only [List.map, xD, xE, xT, xU, ldSF, rEdge] at hS
   refine then_n (wp_seq ?_)
   refine region_q hS
     (cF rfl (oN (.ci (by kernel_rfl))) trivial trivial
     Chain.nil)
     hB ?_
   clear hS; intro a w F hS
   obtain ⟨F, hS⟩ := hS.nm [6] [5, 4, 3, 2, 0] rfl rfl
   try dsimp only [rEdge] at hS
   refine then_n (wp_ret ?_)
   have hS := hS.fresh 1 rfl
   obtain ⟨F, hS⟩ := hS.push 1 5 rfl rfl rfl (by kernel_rfl)
   obtain ⟨F, hS⟩ := hS.push 1 4 rfl rfl rfl (by kernel_rfl)
   obtain ⟨F, hS⟩ := hS.push 1 3 rfl rfl rfl (by kernel_rfl)
   obtain ⟨F, hS⟩ := hS.push 1 2 rfl rfl rfl (by kernel_rfl)
   have hS := hS.turn 1 rfl (r' := RS.hp (mulH (.pointer (some ⟨b, 0, none⟩)) (addB bg e n).1)) (by rw [hg]; exact fun _ _ _ _ h => ⟨{ s with es := gDel (edgeN e) (gPut (edgeN e) N (s.es, s.ck)).1, ck := (gPut (edgeN e) N (s.es, s.ck)).2 }, ⟨putB_ok hB9 hr hN, (by have h9 := hk.cnt.del (ck := s.ck) hB9 hr N; rwa [show putB bg e 0 = putB bg e N from by rw [hz]] at h9), (by show (putB bg e N).length ≤ 100000; have := putB_len bg e N hB9 hr; omega)⟩, h⟩)
   refine ret_G1 hG hS rfl (.tmp rfl .nil) (.one (.int (by rw [hg]))) rfl
  have hz : ¬ N = 0 := by have h9 := hc4; rw [wrap_i64 (by omega)] at h9; rw [hNe]; simpa using h9
  refine wp_skip (then_n (wp_seq ?_))
  refine region_q hS
    (cF rfl (oN (.ci (by kernel_rfl))) trivial trivial
    Chain.nil)
    hB ?_
  clear hS; intro a w F hS
  obtain ⟨F, hS⟩ := hS.nm [6] [5, 4, 3, 2, 0] rfl rfl
  try dsimp only [rEdge] at hS
  refine then_n (wp_ret ?_)
  have hS := hS.fresh 1 rfl
  obtain ⟨F, hS⟩ := hS.push 1 5 rfl rfl rfl (by kernel_rfl)
  obtain ⟨F, hS⟩ := hS.push 1 4 rfl rfl rfl (by kernel_rfl)
  obtain ⟨F, hS⟩ := hS.push 1 3 rfl rfl rfl (by kernel_rfl)
  obtain ⟨F, hS⟩ := hS.push 1 2 rfl rfl rfl (by kernel_rfl)
  have hS := hS.turn 1 rfl (r' := RS.hp (mulH (.pointer (some ⟨b, 0, none⟩)) (addB bg e n).1)) (by rw [hg]; exact fun _ _ _ _ h => ⟨{ s with es := (gPut (edgeN e) N (s.es, s.ck)).1, ck := (gPut (edgeN e) N (s.es, s.ck)).2 }, ⟨putB_ok hB9 hr hN, hk.cnt.put hB9 hr (by omega), (by show (putB bg e N).length ≤ 100000; have := putB_len bg e N hB9 hr; omega)⟩, h⟩)
  refine ret_G1 hG hS rfl (.tmp rfl .nil) (.one (.int (by rw [hg]))) rfl

def addN (e : EdgeD) (n : Int) : Int := if rightB e = true then (if n < 0 then 3 else if 2147483647 < n then 2 else 17) else 1

theorem madd_nil (e : EdgeD) (n : Int) : FnP Try.prog 10 [.is (.pointer none), .agg (rEdge e), .int .i64 n] (.int .i64 (addN e n)) := by
  refine FnP.mk Try.func10 rfl Try.ntmps10 rfl ?_
  intro B a w F hB hfr hS
  refine wp_seq ?_
  refine region_q hS
    (cF rfl (oX 101 (.conv .t .agg)) r1 trivial
    (cF rfl (oN (.ci (by kernel_rfl))) trivial trivial
    Chain.nil))
    hB ?_
  clear hS; intro a w F hS
  replace hS := hS.sub
  obtain ⟨F, hS⟩ := hS.nm [6, 4, 2, 0] [101, 0] rfl rfl
  try dsimp only [RS.sub, SF.sub, CF.sub, csub, Anc.sub, List.map, zCF, rEdge] at hS
  generalize Act.tau a 4 = v4 at hS
  refine then_n (wp_seq ?_)
  refine region_q hS
    (cF rfl (oL true 4 101 .is) r1 r1
    (cF rfl (oP (edge_c e) Try.func24 (Args.one (.pagg .t))) r1 trivial
    (cF rfl (oM .t) r1 trivial
    (cF rfl (o_extract .t rfl) r1 trivial
    (cF rfl (o_extract .t rfl) r1 trivial
    (cF rfl (oN .t) r1 trivial
    (cF rfl (oN .t) r1 trivial
    Chain.nil)))))))
    hB ?_
  clear hS; intro a w F hS
  obtain ⟨F, hS⟩ := hS.nm [8, 7, 6, 4, 2, 0] [101, 0] rfl rfl
  try dsimp only [List.map, xD, xE, xT, xU, ldSF, rEdge] at hS
  refine then_n (wp_seq (wp_seq ?_))
  refine region_q hS
    (cF rfl (oM .t) r1 trivial
    (cF rfl (o_neq .t (.ci (by kernel_rfl))) r1 trivial
    Chain.nil))
    hB ?_
  clear hS; intro a w F hS
  obtain ⟨F, hS⟩ := hS.nm [16, 8, 7, 6, 4, 2, 0] [101, 0] rfl rfl
  try dsimp only [rEdge] at hS
  refine then_n ?_
  refine cond_b hS rfl (fun hc0 => ?_) (fun hc0 => ?_)
  ·skip
   have hr : rightB e = false := by cases hr : rightB e with | false => rfl | true => simp [edgeR_yes hr] at hc0
   have hg : (edgeR e).2 = addN e n := by rw [edgeR_no hr]; unfold addN; rw [if_neg (by rw [hr]; decide)]
   refine wp_seq ?_
   refine region_q hS
     (cF rfl (oM .t) r1 trivial
     (cF rfl (oN .t) r1 trivial
     Chain.nil))
     hB ?_
   clear hS; intro a w F hS
   obtain ⟨F, hS⟩ := hS.nm [7, 6, 4, 2, 0] [101, 0] rfl rfl
   try dsimp only [rEdge] at hS
   refine then_n (wp_ret (then_r ?_))
   refine ret_P hfr hS rfl (.tmp rfl .nil) (.one (.int hg))
  have hr : rightB e = true := by cases hr : rightB e with | true => rfl | false => simp [edgeR_no hr] at hc0
  refine wp_skip (then_n (wp_seq ?_))
  refine region_q hS
    (cF rfl (oM .t) r1 trivial
    (cF rfl (oL true 4 101 .is) r1 r1
    (cF rfl (oP (mcount_nil e) Try.func14 (Args.two .t (.pagg .t))) r2 trivial
    (cF rfl (oN .t) r1 trivial
    Chain.nil))))
    hB ?_
  clear hS; intro a w F hS
  obtain ⟨F, hS⟩ := hS.nm [9, 7, 6, 4, 2, 0] [101, 0] rfl rfl
  try dsimp only [List.map, xD, xE, xT, xU, ldSF, rEdge] at hS
  refine then_n (wp_seq (wp_block (wp_seq ?_)))
  refine region_q hS
    (cF rfl (oM .t) r1 trivial
    (cF rfl (oM .t) r1 trivial
    (cF rfl (o_neg .t) r1 trivial
    (cF rfl (o_lss .t .t) r2 trivial
    (cF rfl (oN .t) r1 trivial
    Chain.nil)))))
    hB ?_
  clear hS; intro a w F hS
  obtain ⟨F, hS⟩ := hS.nm [21, 9, 7, 6, 4, 2, 0] [101, 0] rfl rfl
  try dsimp only [rEdge] at hS
  rw [show IntKind.wrap .i64 ((0 : Int) - 0) = 0 from by decide] at hS
  refine then_n ?_
  refine cond_b hS rfl (fun hc1 => ?_) (fun hc1 => ?_)
  ·skip
   have hc1 : n < 0 := by simpa using hc1
   have hg : (3 : Int) = addN e n := by unfold addN; rw [if_pos hr, if_pos hc1]
   refine wp_seq ?_
   refine region_q hS
     (cF rfl (oN (.ci (by kernel_rfl))) trivial trivial
     Chain.nil)
     hB ?_
   clear hS; intro a w F hS
   obtain ⟨F, hS⟩ := hS.nm [9, 7, 6, 4, 2, 0] [101, 0] rfl rfl
   try dsimp only [rEdge] at hS
   refine then_n (wp_ret (block_r (then_r ?_)))
   refine ret_P hfr hS rfl (.tmp rfl .nil) (.one (.int hg))
  have hc1 : ¬ n < 0 := by simpa using hc1
  refine wp_seq ?_
  refine region_q hS
    (cF rfl (oM .t) r1 trivial
    (cF rfl (oM .t) r1 trivial
    (cF rfl (o_sub (.ci (by kernel_rfl)) .t) r1 trivial
    (cF rfl (o_gtr .t .t) r2 trivial
    (cF rfl (oN .t) r1 trivial
    Chain.nil)))))
    hB ?_
  clear hS; intro a w F hS
  obtain ⟨F, hS⟩ := hS.nm [26, 9, 7, 6, 4, 2, 0] [101, 0] rfl rfl
  try dsimp only [rEdge] at hS
  rw [show IntKind.wrap .i64 (2147483647 - 0) = 2147483647 from by decide] at hS
  refine then_n ?_
  refine cond_b hS rfl (fun hc2 => ?_) (fun hc2 => ?_)
  ·skip
   have hc2 : 2147483647 < n := by simpa using hc2
   have hg : (2 : Int) = addN e n := by unfold addN; rw [if_pos hr, if_neg hc1, if_pos hc2]
   refine wp_seq ?_
   refine region_q hS
     (cF rfl (oN (.ci (by kernel_rfl))) trivial trivial
     Chain.nil)
     hB ?_
   clear hS; intro a w F hS
   obtain ⟨F, hS⟩ := hS.nm [9, 7, 6, 4, 2, 0] [101, 0] rfl rfl
   try dsimp only [rEdge] at hS
   refine then_n (wp_ret (block_r (then_r ?_)))
   refine ret_P hfr hS rfl (.tmp rfl .nil) (.one (.int hg))
  have hc2 : ¬ 2147483647 < n := by simpa using hc2
  have hg : (17 : Int) = addN e n := by unfold addN; rw [if_pos hr, if_neg hc1, if_neg hc2]
  refine wp_seq ?_
  refine region_q hS
    (cF rfl (oM .t) r1 trivial
    (cF rfl (o_nil_eql _ Try.underlying26 rfl .t) r1 trivial
    (cF rfl (oN .t) r1 trivial
    Chain.nil)))
    hB ?_
  clear hS; intro a w F hS
  obtain ⟨F, hS⟩ := hS.nm [31, 9, 7, 6, 4, 2, 0] [101, 0] rfl rfl
  try dsimp only [rEdge] at hS
  refine then_n ?_
  refine cond_b hS rfl (fun hc3 => ?_) (fun hc3 => ?_)
  ·skip
   refine wp_seq ?_
   refine region_q hS
     (cF rfl (oN (.ci (by kernel_rfl))) trivial trivial
     Chain.nil)
     hB ?_
   clear hS; intro a w F hS
   obtain ⟨F, hS⟩ := hS.nm [9, 7, 6, 4, 2, 0] [101, 0] rfl rfl
   try dsimp only [rEdge] at hS
   refine then_n (wp_ret (block_r (then_r ?_)))
   refine ret_P hfr hS rfl (.tmp rfl .nil) (.one (.int hg))
  simp at hc3

end Go.Proofs.Ytfdjjfplhdpclaa
