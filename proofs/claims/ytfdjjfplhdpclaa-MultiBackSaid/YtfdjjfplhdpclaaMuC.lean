/- Bags: Kinds. No condition beyond those that each theorem says. -/
import Derived.Test.YtfdjjfplhdpclaaMuA
namespace Go.Proofs.Ytfdjjfplhdpclaa
open Go Go.Gm
set_option linter.unusedVariables false
set_option linter.unusedSimpArgs false
set_option maxHeartbeats 4000000
set_option maxRecDepth 8000


def bitsN (a b c : Bool) : Int := (if a = true then 2 else 0) + ((if b = true then 4 else 0) + (if c = true then 8 else 0))
def kb (l : List HvD) (f t k : Int) : Bool := l.any fun x => decide (x.edge.src = f) && (decide (x.edge.dst = t) && decide (x.edge.kind = k))
def kindsB (l : List HvD) (f t : Int) : Int := bitsN (kb l f t 1) (kb l f t 2) (kb l f t 3)
def kd (l : List HvD) (t k : Int) : Bool := l.any fun x => decide (x.edge.dst = t) && decide (x.edge.kind = k)
def kindsD (l : List HvD) (t : Int) : Int := bitsN (kd l t 1) (kd l t 2) (kd l t 3)
theorem kd_out (l : List HvD) (f t k : Int) : kd (outB l f) t k = kb l f t k := by
  unfold kd kb outB
  rw [List.any_filter]
theorem kindsD_out (l : List HvD) (f t : Int) : kindsD (outB l f) t = kindsB l f t := by
  unfold kindsD kindsB
  rw [kd_out, kd_out, kd_out]
theorem kd_next {l : List HvD} {t k : Int} {i : Nat} (h : i < l.length) : kd (l.take (i + 1)) t k = (kd (l.take i) t k || (decide ((Go.Gm.nth l i).edge.dst = t) && decide ((Go.Gm.nth l i).edge.kind = k))) := by
  unfold kd
  rw [take_nth h, List.any_append]; simp
theorem or_step (a b c : Bool) {k : Int} (hk : 1 ≤ k ∧ k ≤ 3) : bits .or .i64 (bitsN a b c) (IntKind.wrap .i64 (1 * 2 ^ min (IntKind.wrap .u64 k).toNat (IntKind.bits .i64))) = bitsN (a || decide (k = 1)) (b || decide (k = 2)) (c || decide (k = 3)) := by
  have : k = 1 ∨ k = 2 ∨ k = 3 := by omega
  rcases this with rfl | rfl | rfl <;> cases a <;> cases b <;> cases c <;> decide +kernel
theorem kindsD_no {l : List HvD} {t : Int} {i : Nat} (h : i < l.length) (hd : ¬ (Go.Gm.nth l i).edge.dst = t) : kindsD (l.take (i + 1)) t = kindsD (l.take i) t := by
  unfold kindsD
  rw [kd_next h, kd_next h, kd_next h]; simp [hd]
theorem kindsD_yes {l : List HvD} {t : Int} {i : Nat} (h : i < l.length) (hd : (Go.Gm.nth l i).edge.dst = t) (hk : 1 ≤ (Go.Gm.nth l i).edge.kind ∧ (Go.Gm.nth l i).edge.kind ≤ 3) : bits .or .i64 (kindsD (l.take i) t) (IntKind.wrap .i64 (1 * 2 ^ min (IntKind.wrap .u64 (Go.Gm.nth l i).edge.kind).toNat (IntKind.bits .i64))) = kindsD (l.take (i + 1)) t := by
  unfold kindsD
  rw [kd_next h, kd_next h, kd_next h, or_step _ _ _ hk]; simp [hd]
def kP (l : List HvD) (f t : Int) (k : Nat) : Int := bitsN (decide (1 < k) && kb l f t 1) (decide (2 < k) && kb l f t 2) (decide (3 < k) && kb l f t 3)
theorem kP_next (l : List HvD) (f t : Int) {k : Nat} (hk : 1 ≤ k ∧ k ≤ 3) : kP l f t (k + 1) = kP l f t k + (if kb l f t (k : Int) = true then Go.Gm.nth [1, 2, 4, 8] k else 0) := by
  have : k = 1 ∨ k = 2 ∨ k = 3 := by omega
  rcases this with rfl | rfl | rfl
  · show _ = _ + (if kb l f t 1 = true then Go.Gm.nth [1, 2, 4, 8] 1 else 0)
    rw [show Go.Gm.nth [(1 : Int), 2, 4, 8] 1 = 2 from nth_eq (by simp)]
    unfold kP bitsN; cases kb l f t 1 <;> simp
  · show _ = _ + (if kb l f t 2 = true then Go.Gm.nth [1, 2, 4, 8] 2 else 0)
    rw [show Go.Gm.nth [(1 : Int), 2, 4, 8] 2 = 4 from nth_eq (by simp)]
    unfold kP bitsN; cases kb l f t 1 <;> cases kb l f t 2 <;> simp
  · show _ = _ + (if kb l f t 3 = true then Go.Gm.nth [1, 2, 4, 8] 3 else 0)
    rw [show Go.Gm.nth [(1 : Int), 2, 4, 8] 3 = 8 from nth_eq (by simp)]
    unfold kP bitsN; cases kb l f t 1 <;> cases kb l f t 2 <;> cases kb l f t 3 <;> simp
theorem kP_end (l : List HvD) (f t : Int) : kP l f t 4 = kindsB l f t := by unfold kP kindsB; simp
theorem kP_bd (l : List HvD) (f t : Int) (k : Nat) : 0 ≤ kP l f t k ∧ kP l f t k ≤ 14 := by
  unfold kP bitsN
  split <;> split <;> split <;> omega
theorem kb_next {l : List HvD} {f t k : Int} {i : Nat} (h : i < l.length) : kb (l.take (i + 1)) f t k = (kb (l.take i) f t k || (decide ((Go.Gm.nth l i).edge.src = f) && (decide ((Go.Gm.nth l i).edge.dst = t) && decide ((Go.Gm.nth l i).edge.kind = k)))) := by
  unfold kb
  rw [take_nth h, List.any_append]; simp

theorem mkinds_c (b : Nat) (bg : List HvD) (f t : Int) : FnG Try.prog 16 1 [.is (.pointer (some ⟨b, 0, none⟩)), .int .i64 f, .int .i64 t] [mulH (.pointer (some ⟨b, 0, none⟩)) bg] (.int .i64 (kindsB bg f t)) (fun _ => [mulH (.pointer (some ⟨b, 0, none⟩)) bg]) := by
  refine FnG.mk Try.func16 rfl Try.ntmps16 rfl (by kernel_rfl) ?_
  intro B F0 a w F hB hG hS
  obtain ⟨hB0, hl0⟩ := mulH_ok (show (mulH (.pointer (some ⟨b, 0, none⟩)) bg).p _ _ _ from hS.r 1 _ rfl)
  refine wp_seq ?_
  refine region_q hS
    (cF rfl (oN (.ci (by kernel_rfl))) trivial trivial
    Chain.nil)
    hB ?_
  clear hS; intro a w F hS
  obtain ⟨F, hS⟩ := hS.nm [6, 2, 1, 0] [1, 0] rfl rfl
  try dsimp only [rEdge, rHv] at hS
  refine then_n (wp_seq ?_)
  refine region_q hS
    (cF rfl (oN (.ci (by kernel_rfl))) trivial trivial
    Chain.nil)
    hB ?_
  clear hS; intro a w F hS
  obtain ⟨F, hS⟩ := hS.nm [7, 6, 2, 1, 0] [1, 0] rfl rfl
  try dsimp only [rEdge, rHv] at hS
  refine then_n (wp_seq (wp_seq ?_))
  refine region_q hS
    (cF rfl (oM .t) r1 trivial
    (cF rfl (oM .t) r1 trivial
    (cF rfl (o_callG1 1 (mout_c b bg f) Try.func17 rfl (by kernel_rfl) (Args.two .t .t)) r2 r1
    (cF rfl (o_len_sl Try.underlying22 .t) r1 trivial
    (cF rfl (oM (.ci (by kernel_rfl))) trivial trivial
    Chain.nil)))))
    hB ?_
  clear hS; intro a w F hS
  obtain ⟨F, hS⟩ := hS.nm [14, 13, 12, 7, 6, 2] [1, 0] rfl rfl
  try dsimp only [rEdge, rHv] at hS
  have hol : (outB bg f).length ≤ bg.length := List.length_filter_le _ _
  refine then_n (wp_block ?_)
  refine loop_keep (σ := (Nat)) [2, 6, 12, 13] [0, 1] (fun s => [(14, .pv (.int .i64 (s : Int))), (7, .pv (.int .i64 (kindsD ((outB bg f).take s) t)))]) (fun s => []) (fun s => s ≤ (outB bg f).length ∧ (True)) (fun s => (outB bg f).length - s) (0) hS ⟨rfl, rfl, rfl, rfl, rfl, rfl, trivial⟩ ⟨rfl, rfl, trivial⟩ ⟨Nat.zero_le _, trivial⟩ ?_
  clear hS; intro i a w F hC hS
  try dsimp only at hC
  obtain ⟨F, hS⟩ := hS.nm [14, 13, 12, 7, 6, 2] [1, 0] rfl rfl
  try dsimp only at hS
  obtain ⟨hi, hq⟩ := hC
  refine wp_seq ?_
  refine region_q hS
    (cF rfl (o_lss .t .t) r2 trivial
    Chain.nil)
    hB ?_
  clear hS; intro a w F hS
  obtain ⟨F, hS⟩ := hS.nm [15, 14, 13, 12, 7, 6, 2] [1, 0] rfl rfl
  try dsimp only [rEdge, rHv] at hS
  refine then_n (wp_seq ?_)
  refine cond_b hS rfl (fun hc0 => ?_) (fun hc0 => ?_)
  ·skip
   have hil : i < (outB bg f).length := by simp at hc0; omega
   have hxm := List.mem_filter.1 (nth_mem hil)
   have hkr : 1 ≤ (Go.Gm.nth (outB bg f) i).edge.kind ∧ (Go.Gm.nth (outB bg f) i).edge.kind ≤ 3 := (rightB_iff.1 (hB0.right _ hxm.1)).2.2.1
   refine wp_skip (then_n (wp_seq (wp_block (wp_seq ?_))))
   refine region_q hS
     (cF rfl (o_indexAddr_sl (sz := 5) (.mk Try.underlying22 (by kernel_rfl)) (by intro x; rfl) .t .t (by omega) (by omega)) r2 trivial
     (cF rfl (oR true 5 .t) r1 trivial
     (cF rfl (oH [.int .i64 0, .int .i64 0, .int .i64 0, .int .i64 0, .int .i64 0] 101) trivial trivial
     (cF rfl (oA 5 101 .same .t) r2 r1
     Chain.nil))))
     hB ?_
   clear hS; intro a w F hS
   replace hS := hS.sub
   obtain ⟨F, hS⟩ := hS.nm [14, 13, 12, 9, 7, 6, 2] [101, 1, 0] rfl rfl
   try dsimp only [RS.sub, SF.sub, CF.sub, csub, Anc.sub, List.map, stCells, xL, xM, Nat.reduceAdd, xD, xE, xT, xU, xC, xN, zCF, ldSF, rEdge, rHv] at hS
   generalize Act.tau a 9 = v9 at hS
   try simp only [Int.toNat_natCast] at hS
   refine then_n (wp_seq ?_)
   refine region_q hS
     (cF rfl (oF 0 101 .is) r1 r1
     (cF rfl (oF 1 101 .adr) r1 r1
     (cF rfl (oL false 1 101 .adr) r1 r1
     (cF rfl (oM .t) r1 trivial
     (cF rfl (o_eql .t .t) r2 trivial
     Chain.nil)))))
     hB ?_
   clear hS; intro a w F hS
   obtain ⟨F, hS⟩ := hS.nm [22, 14, 13, 12, 9, 7, 6, 2] [101, 1, 0] rfl rfl
   try dsimp only [List.map, xD, xE, xT, xU, ldSF, rEdge, rHv] at hS
   refine then_n ?_
   refine cond_b hS rfl (fun hc1 => ?_) (fun hc1 => ?_)
   ·skip
    have hdt : (Go.Gm.nth (outB bg f) i).edge.dst = t := by simpa using hc1
    refine region_q hS
      (cF rfl (oM .t) r1 trivial
      (cF rfl (oF 0 101 .is) r1 r1
      (cF rfl (oF 2 101 .adr) r1 r1
      (cF rfl (oL false 1 101 .adr) r1 r1
      (cF rfl (o_conv Try.underlying63 (by kernel_rfl) .t) r1 trivial
      (cF rfl (o_shl (.ci (by kernel_rfl)) .t (by rw [show IntKind.wrap .u64 (Go.Gm.nth (outB bg f) i).edge.kind = (Go.Gm.nth (outB bg f) i).edge.kind from wrap_u64 (by omega)]; omega)) r1 trivial
      (cF rfl (o_or .t .t) r2 trivial
      (cF rfl (oN .t) r1 trivial
      Chain.nil))))))))
      hB ?_
    clear hS; intro a w F hS
    obtain ⟨F, hS⟩ := hS.nm [14, 13, 12, 7, 6, 2] [1, 0] rfl rfl
    try dsimp only [List.map, xD, xE, xT, xU, ldSF, rEdge, rHv] at hS
    refine block_n (then_n ?_)
    refine region_q hS
      (cF rfl (o_add .t (.ci (by kernel_rfl))) r1 trivial
      (cF rfl (oM .t) r1 trivial
      Chain.nil))
      hB ?_
    clear hS; intro a w F hS
    obtain ⟨F, hS⟩ := hS.nm [14, 13, 12, 7, 6, 2] [1, 0] rfl rfl
    try dsimp only [rEdge, rHv] at hS
    refine then_n ?_
    replace hS := hS.ent (i := 14) (s' := .pv (.int .i64 ((i + 1 : Nat) : Int))) rfl (.int (wrap_succ (by omega)))
    replace hS := hS.ent (i := 7) (s' := .pv (.int .i64 (kindsD ((outB bg f).take (i + 1)) t))) rfl (.int (by first | exact kindsD_yes hil hdt hkr | exact (kindsD_no hil hdt).symm))
    obtain ⟨F, hS⟩ := hS.nm [13, 12, 6, 2, 7, 14] [1, 0] rfl rfl
    exact ⟨(i + 1), F, ⟨by omega, trivial⟩, hS, by omega⟩
   have hdt : ¬ (Go.Gm.nth (outB bg f) i).edge.dst = t := by simpa using hc1
   refine wp_skip (block_n (then_n ?_))
   refine region_q hS
     (cF rfl (o_add .t (.ci (by kernel_rfl))) r1 trivial
     (cF rfl (oM .t) r1 trivial
     Chain.nil))
     hB ?_
   clear hS; intro a w F hS
   obtain ⟨F, hS⟩ := hS.nm [14, 13, 12, 7, 6, 2] [1, 0] rfl rfl
   try dsimp only [rEdge, rHv] at hS
   refine then_n ?_
   replace hS := hS.ent (i := 14) (s' := .pv (.int .i64 ((i + 1 : Nat) : Int))) rfl (.int (wrap_succ (by omega)))
   replace hS := hS.ent (i := 7) (s' := .pv (.int .i64 (kindsD ((outB bg f).take (i + 1)) t))) rfl (.int (by first | exact kindsD_yes hil hdt hkr | exact (kindsD_no hil hdt).symm))
   obtain ⟨F, hS⟩ := hS.nm [13, 12, 6, 2, 7, 14] [1, 0] rfl rfl
   exact ⟨(i + 1), F, ⟨by omega, trivial⟩, hS, by omega⟩
  have hil : i = (outB bg f).length := by simp at hc0; omega
  refine wp_exit (then_x (then_x (block_x (then_n (wp_seq ?_)))))
  refine region_q hS
    (cF rfl (oM .t) r1 trivial
    (cF rfl (oN .t) r1 trivial
    Chain.nil))
    hB ?_
  clear hS; intro a w F hS
  obtain ⟨F, hS⟩ := hS.nm [6] [1, 0] rfl rfl
  try dsimp only [rEdge, rHv] at hS
  refine then_n (wp_ret ?_)
  refine ret_G1 hG hS rfl (.tmp rfl .nil) (.one (.int (by rw [hil, List.take_length, kindsD_out]))) rfl

end Go.Proofs.Ytfdjjfplhdpclaa
