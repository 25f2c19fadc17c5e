/- Da2, Da3, Da4, Da5, Da6, Da7, in one text. -/
import Derived.Test.YtpnaolljmhhdbaaDa1
namespace Go.Proofs.Ytpnaolljmhhdbaa
open Go Go.Gm
set_option linter.unusedVariables false
set_option linter.unusedSimpArgs false
set_option maxHeartbeats 4000000
set_option maxRecDepth 8000

end Go.Proofs.Ytpnaolljmhhdbaa
namespace Go.Proofs.Ytpnaolljmhhdbaa
open Go Go.Gm
set_option linter.unusedVariables false
set_option linter.unusedSimpArgs false
set_option maxHeartbeats 4000000
set_option maxRecDepth 8000

theorem PVs.lenAt {α : Type} {R : α → List PV} {l : List α} {v : Value} {w : World} {y : Ys} (h : (PV.sl R l).p v w y) : l.length ≤ 9223372036854775807 := by
  obtain ⟨_, cap, _, h1, h2, _⟩ := h
  unfold maxLen at h2
  omega
theorem Sat.lenHist {B : Base} {E : En} {a : Act} {w : World} {F : Fp} (h : Sat B E a w F) {i : Nat} {u : HistD} (hl : Go.Gm.look E.s i = some (SF.pv (PV.agg (rHist u)))) : u.txs.length ≤ 9223372036854775807 ∧ u.orders.length ≤ 9223372036854775807 := by
  obtain ⟨vs, _, hp⟩ := h.s i _ hl
  match vs, hp with
  | [x, y], hp => exact ⟨PVs.lenAt hp.1.2, PVs.lenAt hp.2.1.2⟩

end Go.Proofs.Ytpnaolljmhhdbaa
namespace Go.Proofs.Ytpnaolljmhhdbaa
open Go Go.Gm
set_option linter.unusedVariables false
set_option linter.unusedSimpArgs false
set_option maxHeartbeats 4000000
set_option maxRecDepth 8000

end Go.Proofs.Ytpnaolljmhhdbaa
namespace Go.Proofs.Ytpnaolljmhhdbaa
open Go Go.Gm
set_option linter.unusedVariables false
set_option linter.unusedSimpArgs false
set_option maxHeartbeats 4000000
set_option maxRecDepth 8000



end Go.Proofs.Ytpnaolljmhhdbaa
namespace Go.Proofs.Ytpnaolljmhhdbaa
open Go Go.Gm
set_option linter.unusedVariables false
set_option linter.unusedSimpArgs false
set_option maxHeartbeats 4000000
set_option maxRecDepth 8000

def TxsOk (l : List TxD) : Prop := l.length ≤ 1000000 ∧ ∀ t ∈ l, t.ops.length ≤ 1000000
def OrdsOk (l : List OrdD) : Prop := l.length ≤ 1000000 ∧ ∀ t ∈ l, t.txs.length ≤ 1000000
structure DOk (d : DeltaD) : Prop where
  was : TxsOk d.was
  now : TxsOk d.now
  old : OrdsOk d.old
  new : OrdsOk d.new
end Go.Proofs.Ytpnaolljmhhdbaa
namespace Go.Proofs.Ytpnaolljmhhdbaa
open Go Go.Gm
set_option linter.unusedVariables false
set_option linter.unusedSimpArgs false
set_option maxHeartbeats 4000000
set_option maxRecDepth 8000

def HLight (h : HistD) : Prop := h.txs.length ≤ 12 ∧ h.orders.length ≤ 24 ∧ (∀ j, j < h.txs.length → (Go.Gm.nth h.txs j).ops.length ≤ 24) ∧ ∀ j, j < h.orders.length → (Go.Gm.nth h.orders j).txs.length ≤ 24
instance (h : HistD) : Decidable (HLight h) := by unfold HLight; exact inferInstance
def DLight (d : DeltaD) : Prop := HLight ⟨d.was, d.old⟩ ∧ HLight ⟨d.now, d.new⟩
instance (d : DeltaD) : Decidable (DLight d) := by unfold DLight; exact inferInstance
theorem mem_nth {α : Type} [Inhabited α] {q : List α} {x : α} (h : x ∈ q) : ∃ j, j < q.length ∧ Go.Gm.nth q j = x := by
  obtain ⟨j, hj, e⟩ := List.getElem_of_mem h
  exact ⟨j, hj, by rw [nth_eq hj]; exact e⟩
theorem DLight.ok {d : DeltaD} (h : DLight d) : DOk d := by
  obtain ⟨⟨h1, h2, h3, h4⟩, h5, h6, h7, h8⟩ := h
  dsimp only at h1 h2 h3 h4 h5 h6 h7 h8
  refine ⟨⟨by omega, fun t ht => ?_⟩, ⟨by omega, fun t ht => ?_⟩, ⟨by omega, fun t ht => ?_⟩, ⟨by omega, fun t ht => ?_⟩⟩ <;> obtain ⟨j, hj, rfl⟩ := mem_nth ht
  · have := h3 j hj; omega
  · have := h7 j hj; omega
  · have := h4 j hj; omega
  · have := h8 j hj; omega

theorem lightH_c (u : HistD) : FnP Try.prog 15 [.agg (rHist u)] (.bool (decide (HLight u))) := by
  refine FnP.mk Try.func15 rfl Try.ntmps15 rfl ?_
  intro B a w F hB hfr hS
  obtain ⟨hxl, hyl⟩ := Sat.lenHist hS (i := 0) rfl
  refine wp_seq ?_
  refine region_q hS
    (cF rfl (oX 101 (.conv .t .agg)) r1 trivial
    (cF rfl (oN .cb) trivial trivial
    Chain.nil))
    hB ?_
  clear hS; intro a w F hS
  replace hS := hS.sub
  obtain ⟨F, hS⟩ := hS.nm [2, 1] [101, 0] rfl rfl
  try dsimp only [RS.sub, SF.sub, CF.sub, csub, Anc.sub, List.map, zCF] at hS
  generalize Act.tau a 1 = v1 at hS
  refine then_n (wp_seq (wp_seq ?_))
  refine region_q hS
    (cF rfl (oF 0 101 .is) r1 r1
    (cF rfl (oL false 1 101 .adr) r1 r1
    (cF rfl (o_len_sl Try.underlying39 .t) r1 trivial
    (cF rfl (o_gtr .t (.ci (by kernel_rfl))) r1 trivial
    (cF rfl (oM .t) r1 trivial
    (Chain.cons (Cert.cond rfl rfl (fun h => o_fieldAddr (off := 1) 101 .is (by kernel_rfl) (by rfl))) r2 r1
    (Chain.cons (Cert.cond rfl rfl (fun h => o_load (ag := false) (sz := 1) 101 (.w h .adr) (by kernel_rfl) (by kernel_rfl) (by kernel_rfl) (by rfl))) r2 r1
    (Chain.cons (Cert.cond rfl rfl (fun h => o_len_sl Try.underlying40 (.w h))) r2 trivial
    (Chain.cons (Cert.cond rfl rfl (fun h => o_gtr (.w h) (.ci (by kernel_rfl)))) r2 trivial
    (cF rfl (o_or2 .t .t) r2 trivial
    Chain.nil))))))))))
    hB ?_
  clear hS; intro a w F hS
  obtain ⟨F, hS⟩ := hS.nm [16, 2, 1] [101, 0] rfl rfl
  try dsimp only [List.map, xD, xE, xT, xU, ldSF] at hS
  refine then_n ?_
  refine cond_b hS rfl (fun hc0 => ?_) (fun hc0 => ?_)
  ·skip
   have hg : false = decide (HLight u) := by
     rw [eq_comm, decide_eq_false_iff_not]
     rintro ⟨g1, g2, g3, g4⟩
     simp at hc0; omega
   refine wp_seq ?_
   refine region_q hS
     (cF rfl (oN .cb) trivial trivial
     Chain.nil)
     hB ?_
   clear hS; intro a w F hS
   obtain ⟨F, hS⟩ := hS.nm [2, 1] [101, 0] rfl rfl
   refine then_n (wp_ret (then_r ?_))
   refine ret_P hfr hS rfl (.tmp rfl .nil) (.one (.bool hg))
  have hb : u.txs.length ≤ 12 ∧ u.orders.length ≤ 24 := by simp at hc0; omega
  refine wp_skip (then_n (wp_seq (wp_seq ?_)))
  refine region_q hS
    (cF rfl (oF 0 101 .is) r1 r1
    (cF rfl (oL false 1 101 .adr) r1 r1
    (cF rfl (o_len_sl Try.underlying39 .t) r1 trivial
    (cF rfl (oM (.ci (by kernel_rfl))) trivial trivial
    Chain.nil))))
    hB ?_
  clear hS; intro a w F hS
  obtain ⟨F, hS⟩ := hS.nm [20, 19, 18, 2, 1] [101, 0] rfl rfl
  try dsimp only [List.map, xD, xE, xT, xU, ldSF] at hS
  refine then_n (wp_block ?_)
  obtain ⟨F, hS⟩ := hS.nm [20, 19, 18, 1] [101, 0] rfl rfl
  refine loop_inv (σ := Nat) (fun s => (⟨[(1, .pv (.is v1)), (18, .pv (.sl rTx u.txs)), (19, .pv (.int .i64 u.txs.length)), (20, .pv (.int .i64 s))], [(0, frame B), (101, .pt (.val v1) 42 [.pv (.sl rTx u.txs), .pv (.sl rOrd u.orders)])]⟩ : En)) (fun s => s ≤ u.txs.length ∧ ∀ j, j < s → (Go.Gm.nth u.txs j).ops.length ≤ 24) (fun s => u.txs.length - s) 0 hS ⟨Nat.zero_le _, fun j hj => absurd hj (Nat.not_lt_zero j)⟩ ?_
  clear hS; intro i a w F hC hS
  try dsimp only at hC
  try dsimp only at hS
  obtain ⟨hi, hq⟩ := hC
  refine wp_seq ?_
  refine region_q hS
    (cF rfl (o_lss .t .t) r2 trivial
    Chain.nil)
    hB ?_
  clear hS; intro a w F hS
  obtain ⟨F, hS⟩ := hS.nm [21, 20, 19, 18, 1] [101, 0] rfl rfl
  refine then_n (wp_seq ?_)
  refine cond_b hS rfl (fun hc1 => ?_) (fun hc1 => ?_)
  ·skip
   have hil : i < u.txs.length := by simp at hc1; omega
   refine wp_skip (then_n (wp_seq (wp_block (wp_seq ?_))))
   refine region_q hS
     (cF rfl (o_indexAddr_sl (sz := 3) (.mk Try.underlying39 (by kernel_rfl)) (by intro x; rfl) .t .t (by omega) (by omega)) r2 trivial
     (cF rfl (oR true 3 .t) r1 trivial
     (cF rfl (oH [.int .i64 0, .bool false, .slice none 0 0] 102) trivial trivial
     (cF rfl (oA 3 102 .same .t) r2 r1
     Chain.nil))))
     hB ?_
   clear hS; intro a w F hS
   replace hS := hS.sub
   obtain ⟨F, hS⟩ := hS.nm [23, 22, 21, 20, 19, 18, 4, 1] [102, 101, 0] rfl rfl
   try dsimp only [RS.sub, SF.sub, CF.sub, csub, Anc.sub, List.map, stCells, xL, xM, Nat.reduceAdd, xD, xE, xT, xU, xC, xN, zCF, ldSF] at hS
   generalize Act.tau a 4 = v4 at hS
   refine then_n (wp_seq ?_)
   refine region_q hS
     (cF rfl (oF 2 102 .is) r1 r1
     (cF rfl (oL false 1 102 .adr) r1 r1
     (cF rfl (o_len_sl Try.underlying73 .t) r1 trivial
     (cF rfl (o_gtr .t (.ci (by kernel_rfl))) r1 trivial
     Chain.nil))))
     hB ?_
   clear hS; intro a w F hS
   obtain ⟨F, hS⟩ := hS.nm [27, 26, 25, 24, 23, 22, 21, 20, 19, 18, 4, 1] [102, 101, 0] rfl rfl
   try dsimp only [List.map, xD, xE, xT, xU, ldSF] at hS
   refine then_n ?_
   refine cond_b hS rfl (fun hc2 => ?_) (fun hc2 => ?_)
   ·skip
    have hg : false = decide (HLight u) := by
      rw [eq_comm, decide_eq_false_iff_not]
      rintro ⟨g1, g2, g3, g4⟩
      have := g3 i hil; rw [Int.toNat_natCast] at hc2; simp at hc2; omega
    refine wp_seq ?_
    refine region_q hS
      (cF rfl (oN .cb) trivial trivial
      Chain.nil)
      hB ?_
    clear hS; intro a w F hS
    obtain ⟨F, hS⟩ := hS.nm [27, 26, 25, 24, 23, 22, 21, 20, 19, 18, 4, 2, 1] [102, 101, 0] rfl rfl
    refine then_n (wp_ret (block_r (then_r (then_r (block_r (then_r ?_))))))
    refine ret_P hfr hS rfl (.tmp rfl .nil) (.one (.bool hg))
   have hqi : (Go.Gm.nth u.txs i).ops.length ≤ 24 := by rw [Int.toNat_natCast] at hc2; simp at hc2; omega
   refine wp_skip (block_n (then_n ?_))
   refine region_q hS
     (cF rfl (o_add .t (.ci (by kernel_rfl))) r1 trivial
     (cF rfl (oM .t) r1 trivial
     Chain.nil))
     hB ?_
   clear hS; intro a w F hS
   obtain ⟨F, hS⟩ := hS.nm [28, 27, 26, 25, 24, 23, 22, 21, 20, 19, 18, 4, 1] [102, 101, 0] rfl rfl
   refine then_n ?_
   replace hS := hS.ent (i := 20) (s' := .pv (.int .i64 ((i + 1 : Nat) : Int))) rfl (.int (wrap_succ (by omega)))
   obtain ⟨F, hS⟩ := hS.nm [20, 19, 18, 1] [101, 0] rfl rfl
   exact ⟨i + 1, F, ⟨by omega, fun j hj => by rcases Nat.lt_or_eq_of_le (Nat.le_of_lt_succ hj) with h | h; exact hq j h; rw [h]; exact hqi⟩, hS, by omega⟩
  have hT : ∀ j, j < u.txs.length → (Go.Gm.nth u.txs j).ops.length ≤ 24 := fun j hj => hq j (by simp at hc1; omega)
  clear hq hi
  refine wp_exit (then_x (then_x (block_x (then_n (wp_seq (wp_seq ?_))))))
  refine region_q hS
    (cF rfl (oF 1 101 .is) r1 r1
    (cF rfl (oL false 1 101 .adr) r1 r1
    (cF rfl (o_len_sl Try.underlying40 .t) r1 trivial
    (cF rfl (oM (.ci (by kernel_rfl))) trivial trivial
    Chain.nil))))
    hB ?_
  clear hS; intro a w F hS
  obtain ⟨F, hS⟩ := hS.nm [32, 31, 30] [0] rfl rfl
  try dsimp only [List.map, xD, xE, xT, xU, ldSF] at hS
  refine then_n (wp_block ?_)
  obtain ⟨F, hS⟩ := hS.nm [32, 31, 30] [0] rfl rfl
  refine loop_inv (σ := Nat) (fun s => (⟨[(30, .pv (.sl rOrd u.orders)), (31, .pv (.int .i64 u.orders.length)), (32, .pv (.int .i64 s))], [(0, frame B)]⟩ : En)) (fun s => s ≤ u.orders.length ∧ ∀ j, j < s → (Go.Gm.nth u.orders j).txs.length ≤ 24) (fun s => u.orders.length - s) 0 hS ⟨Nat.zero_le _, fun j hj => absurd hj (Nat.not_lt_zero j)⟩ ?_
  clear hS; intro i a w F hC hS
  try dsimp only at hC
  try dsimp only at hS
  obtain ⟨hi, hq⟩ := hC
  refine wp_seq ?_
  refine region_q hS
    (cF rfl (o_lss .t .t) r2 trivial
    Chain.nil)
    hB ?_
  clear hS; intro a w F hS
  obtain ⟨F, hS⟩ := hS.nm [33, 32, 31, 30] [0] rfl rfl
  refine then_n (wp_seq ?_)
  refine cond_b hS rfl (fun hc3 => ?_) (fun hc3 => ?_)
  ·skip
   have hil : i < u.orders.length := by simp at hc3; omega
   refine wp_skip (then_n (wp_seq (wp_block (wp_seq ?_))))
   refine region_q hS
     (cF rfl (o_indexAddr_sl (sz := 2) (.mk Try.underlying40 (by kernel_rfl)) (by intro x; rfl) .t .t (by omega) (by omega)) r2 trivial
     (cF rfl (oR true 2 .t) r1 trivial
     (cF rfl (oH [.int .i64 0, .slice none 0 0] 103) trivial trivial
     (cF rfl (oA 2 103 .same .t) r2 r1
     Chain.nil))))
     hB ?_
   clear hS; intro a w F hS
   replace hS := hS.sub
   obtain ⟨F, hS⟩ := hS.nm [35, 34, 33, 32, 31, 30, 6] [103, 0] rfl rfl
   try dsimp only [RS.sub, SF.sub, CF.sub, csub, Anc.sub, List.map, stCells, xL, xM, Nat.reduceAdd, xD, xE, xT, xU, xC, xN, zCF, ldSF] at hS
   generalize Act.tau a 6 = v6 at hS
   refine then_n (wp_seq ?_)
   refine region_q hS
     (cF rfl (oF 1 103 .is) r1 r1
     (cF rfl (oL false 1 103 .adr) r1 r1
     (cF rfl (o_len_sl Try.underlying76 .t) r1 trivial
     (cF rfl (o_gtr .t (.ci (by kernel_rfl))) r1 trivial
     Chain.nil))))
     hB ?_
   clear hS; intro a w F hS
   obtain ⟨F, hS⟩ := hS.nm [39, 38, 37, 36, 35, 34, 33, 32, 31, 30, 6] [103, 0] rfl rfl
   try dsimp only [List.map, xD, xE, xT, xU, ldSF] at hS
   refine then_n ?_
   refine cond_b hS rfl (fun hc4 => ?_) (fun hc4 => ?_)
   ·skip
    have hg : false = decide (HLight u) := by
      rw [eq_comm, decide_eq_false_iff_not]
      rintro ⟨g1, g2, g3, g4⟩
      have := g4 i hil; rw [Int.toNat_natCast] at hc4; simp at hc4; omega
    refine wp_seq ?_
    refine region_q hS
      (cF rfl (oN .cb) trivial trivial
      Chain.nil)
      hB ?_
    clear hS; intro a w F hS
    obtain ⟨F, hS⟩ := hS.nm [39, 38, 37, 36, 35, 34, 33, 32, 31, 30, 6, 2] [103, 0] rfl rfl
    refine then_n (wp_ret (block_r (then_r (then_r (block_r (then_r ?_))))))
    refine ret_P hfr hS rfl (.tmp rfl .nil) (.one (.bool hg))
   have hqi : (Go.Gm.nth u.orders i).txs.length ≤ 24 := by rw [Int.toNat_natCast] at hc4; simp at hc4; omega
   refine wp_skip (block_n (then_n ?_))
   refine region_q hS
     (cF rfl (o_add .t (.ci (by kernel_rfl))) r1 trivial
     (cF rfl (oM .t) r1 trivial
     Chain.nil))
     hB ?_
   clear hS; intro a w F hS
   obtain ⟨F, hS⟩ := hS.nm [40, 39, 38, 37, 36, 35, 34, 33, 32, 31, 30, 6] [103, 0] rfl rfl
   refine then_n ?_
   replace hS := hS.ent (i := 32) (s' := .pv (.int .i64 ((i + 1 : Nat) : Int))) rfl (.int (wrap_succ (by omega)))
   obtain ⟨F, hS⟩ := hS.nm [32, 31, 30] [0] rfl rfl
   exact ⟨i + 1, F, ⟨by omega, fun j hj => by rcases Nat.lt_or_eq_of_le (Nat.le_of_lt_succ hj) with h | h; exact hq j h; rw [h]; exact hqi⟩, hS, by omega⟩
  have hO : ∀ j, j < u.orders.length → (Go.Gm.nth u.orders j).txs.length ≤ 24 := fun j hj => hq j (by simp at hc3; omega)
  have hg : true = decide (HLight u) := by rw [eq_comm, decide_eq_true_eq]; exact ⟨hb.1, hb.2, hT, hO⟩
  refine wp_exit (then_x (then_x (block_x (then_n (wp_seq ?_)))))
  refine region_q hS
    (cF rfl (oN .cb) trivial trivial
    Chain.nil)
    hB ?_
  clear hS; intro a w F hS
  obtain ⟨F, hS⟩ := hS.nm [2] [0] rfl rfl
  refine then_n (wp_ret ?_)
  refine ret_P hfr hS rfl (.tmp rfl .nil) (.one (.bool hg))

end Go.Proofs.Ytpnaolljmhhdbaa
