/- Of, Count. No condition beyond those that each theorem says. -/
import Derived.Test.YtpahapjcdldodaaDoorBr2
namespace Go.Proofs.YtpahapjcdldodaaDoor
open Go Go.Gm
set_option linter.unusedVariables false
set_option linter.unusedSimpArgs false
set_option maxHeartbeats 4000000
set_option maxRecDepth 8000


def ofW (m : Int) (l : List Int) : List Int := l.foldl (fun ws i => setW (rowN m) ws i true) (zeroW m)
theorem ofW_next (m : Int) {l : List Int} {k : Nat} (h : k < l.length) : setW (rowN m) (ofW m (l.take k)) (Go.Gm.nth l k) true = ofW m (l.take (k + 1)) := by
  unfold ofW
  rw [nth_eq h, List.take_succ_eq_append_getElem h, List.foldl_append]
  rfl
theorem ofW_ok (m : Int) (l : List Int) : RowOk (rowN m) (ofW m l) := by
  unfold ofW
  have : ∀ (l : List Int) (ws : List Int), RowOk (rowN m) ws → RowOk (rowN m) (l.foldl (fun ws i => setW (rowN m) ws i true) ws) := by
    intro l
    induction l with
    | nil => intro ws h; exact h
    | cons x l ih => intro ws h; exact ih _ (h.setW x true)
  exact this l _ (zeroW_ok m)

theorem of_c (m : Int) (l : List Int) (hl : l.length ≤ 1000000) : FnG Tryd.prog 79 1 [.int .i64 m, .sl rInt l] [.star []] (PV.ptr) (fun v => [bitsH v (rowN m) (ofW m l)]) := by
  refine FnG.mk Tryd.func79 rfl Tryd.ntmps79 rfl (by kernel_rfl) ?_
  intro B F0 a w F hB hG hS
  refine wp_seq ?_
  refine region_q hS
    (cF rfl (oN (.c rfl)) trivial trivial
    Chain.nil)
    hB ?_
  clear hS; intro a w F hS
  obtain ⟨F, hS⟩ := hS.nm [4, 1, 0] [1, 0] rfl rfl
  refine then_n (wp_seq ?_)
  refine region_q hS
    (cF rfl (oM .t) r1 trivial
    (cF rfl (o_callN 1 (rnew_c m) Tryd.func41 rfl (by kernel_rfl) (Args.one .t) PV.ptr_one) r1 r1
    (cF rfl (oN .t) r1 trivial
    Chain.nil)))
    hB ?_
  clear hS; intro a w F hS
  replace hS := hS.sub
  obtain ⟨F, hS⟩ := hS.nm [5, 4, 1] [1, 0] rfl rfl
  try dsimp only [RS.sub, SF.sub, CF.sub, csub, Anc.sub, List.map] at hS
  generalize Act.tau a 9 = v9 at hS
  obtain ⟨_, _, _, ho⟩ := hS.obGet 1 rfl
  obtain ⟨hI, b, rfl⟩ := bitsH_ptr ho
  clear ho
  replace hS := hS.turn 1 rfl (r' := RS.hp (bitsH (.pointer (some ⟨b, 0, none⟩)) (rowN m) (zeroW m))) (fun _ _ _ _ h => h)
  obtain ⟨F, hS⟩ := hS.nm [5, 4, 1] [1, 0] rfl rfl
  refine then_n (wp_seq (wp_seq ?_))
  refine region_q hS
    (cF rfl (oM .t) r1 trivial
    (cF rfl (o_len_sl Tryd.underlying30 .t) r1 trivial
    (cF rfl (oM (.ci (by kernel_rfl))) trivial trivial
    Chain.nil)))
    hB ?_
  clear hS; intro a w F hS
  obtain ⟨F, hS⟩ := hS.nm [12, 11, 10, 5, 4] [1, 0] rfl rfl
  refine then_n (wp_block ?_)
  obtain ⟨F, hS⟩ := hS.nm [12, 11, 10, 5] [1, 0] rfl rfl
  refine loop_inv (σ := Nat) (fun s => (⟨[(5, .pv (.is (.pointer (some ⟨b, 0, none⟩)))), (10, .pv (.sl rInt l)), (11, .pv (.int .i64 l.length)), (12, .pv (.int .i64 s))], [(0, frame B), (1, RS.hp (bitsH (.pointer (some ⟨b, 0, none⟩)) (rowN m) (ofW m (l.take s))))]⟩ : En)) (fun s => s ≤ l.length) (fun s => l.length - s) 0 hS (Nat.zero_le _) ?_
  clear hS; intro k a w F hC hS
  try dsimp only at hC
  try dsimp only at hS
  have hk : k ≤ l.length := hC
  refine wp_seq ?_
  refine region_q hS
    (cF rfl (o_lss .t .t) r2 trivial
    Chain.nil)
    hB ?_
  clear hS; intro a w F hS
  obtain ⟨F, hS⟩ := hS.nm [13, 12, 11, 10, 5] [1, 0] rfl rfl
  refine then_n (wp_seq ?_)
  refine cond_b hS rfl (fun hc0 => ?_) (fun hc0 => ?_)
  ·skip
   have hkl : k < l.length := by simp at hc0; omega
   refine wp_skip (then_n (wp_seq (wp_block (wp_seq ?_))))
   refine region_q hS
     (cF rfl (o_indexAddr_sl (sz := 1) (.mk Tryd.underlying30 (by kernel_rfl)) (by intro x; rfl) .t .t (by omega) (by omega)) r2 trivial
     (cF rfl (oR false 1 .t) r1 trivial
     (cF rfl (oN .t) r1 trivial
     Chain.nil)))
     hB ?_
   clear hS; intro a w F hS
   obtain ⟨F, hS⟩ := hS.nm [15, 14, 13, 12, 11, 10, 7, 5] [1, 0] rfl rfl
   try dsimp only [List.map, xD, xE, xT, xU, ldSF] at hS
   rw [Int.toNat_natCast] at hS
   refine then_n ?_
   refine region_q hS
     (cF rfl (oM .t) r1 trivial
     (cF rfl (oM .t) r1 trivial
     (cF rfl (o_callG1 1 (set_c b (rowN m) (ofW m (l.take k)) (Go.Gm.nth l k) true) Tryd.func46 rfl (by kernel_rfl) (Args.three .t .t .cb)) r2 r1
     Chain.nil)))
     hB ?_
   clear hS; intro a w F hS
   obtain ⟨F, hS⟩ := hS.nm [17, 16, 15, 14, 13, 12, 11, 10, 7, 5] [1, 0] rfl rfl
   refine block_n (then_n ?_)
   refine region_q hS
     (cF rfl (o_add .t (.ci (by kernel_rfl))) r1 trivial
     (cF rfl (oM .t) r1 trivial
     Chain.nil))
     hB ?_
   clear hS; intro a w F hS
   obtain ⟨F, hS⟩ := hS.nm [19, 17, 16, 15, 14, 13, 12, 11, 10, 7, 5] [1, 0] rfl rfl
   refine then_n ?_
   rw [ofW_next m hkl] at hS
   replace hS := hS.ent (i := 12) (s' := .pv (.int .i64 ((k + 1 : Nat) : Int))) rfl (.int (wrap_succ (by omega)))
   obtain ⟨F, hS⟩ := hS.nm [12, 11, 10, 5] [1, 0] rfl rfl
   exact ⟨k + 1, F, by omega, hS, by omega⟩
  have hkl : k = l.length := by simp at hc0; omega
  rw [hkl, List.take_length] at hS
  refine wp_exit (then_x (then_x (block_x (then_n (wp_seq ?_)))))
  refine region_q hS
    (cF rfl (oM .t) r1 trivial
    (cF rfl (oN .t) r1 trivial
    Chain.nil))
    hB ?_
  clear hS; intro a w F hS
  obtain ⟨F, hS⟩ := hS.nm [4] [1, 0] rfl rfl
  refine then_n (wp_ret ?_)
  refine ret_N1 (h' := fun v => bitsH v (rowN m) (ofW m l)) hG hS rfl (.tmp rfl .nil) (.one .ptr) rfl

def shrF (x : Int) (k : Int) : Int := x.fdiv (2 ^ min k.toNat (IntKind.bits .u64))
def ones1 (x : Int) : Int := IntKind.wrap .u64 (bits .and .u64 (shrF x 1) 6148914691236517205 + bits .and .u64 x 6148914691236517205)
def ones2 (x : Int) : Int := IntKind.wrap .u64 (bits .and .u64 (shrF x 2) 3689348814741910323 + bits .and .u64 x 3689348814741910323)
def ones3 (x : Int) : Int := bits .and .u64 (IntKind.wrap .u64 (shrF x 4 + x)) 1085102592571150095
def ones4 (x : Int) (k : Int) : Int := IntKind.wrap .u64 (x + shrF x k)
def onesF (x : Int) : Int := bits .and .i64 (IntKind.wrap .i64 (ones4 (ones4 (ones4 (ones3 (ones2 (ones1 x))) 8) 16) 32)) 127

theorem onesF_in (x : Int) : 0 ≤ onesF x ∧ onesF x ≤ 127 := by
  unfold onesF
  generalize IntKind.wrap .i64 _ = y
  have h2 : (BitVec.ofInt 64 (127 : Int)).toNat = 2 ^ 7 - 1 := by decide
  have e : bits .and .i64 y 127 = IntKind.wrap .i64 (((BitVec.ofInt 64 y &&& BitVec.ofInt 64 127).toNat : Nat) : Int) := rfl
  rw [e, BitVec.toNat_and, h2, Nat.and_two_pow_sub_one_eq_mod]
  have := Nat.mod_lt (BitVec.ofInt 64 y).toNat (show 0 < 2 ^ 7 by decide)
  rw [wrap_i64 (by omega)]
  omega
def cntW (ws : List Int) : Int := ws.foldl (fun s x => s + onesF x) 0
theorem cntW_next {ws : List Int} {k : Nat} (h : k < ws.length) : cntW (ws.take (k + 1)) = cntW (ws.take k) + onesF (Go.Gm.nth ws k) := by
  unfold cntW
  rw [nth_eq h, List.take_succ_eq_append_getElem h, List.foldl_append]
  rfl
theorem cntW_in (ws : List Int) : ∀ k, k ≤ ws.length → 0 ≤ cntW (ws.take k) ∧ cntW (ws.take k) ≤ 127 * (k : Int)
  | 0, _ => by simp [cntW]
  | k + 1, h => by
    have h1 := cntW_in ws k (by omega)
    have h2 := onesF_in (Go.Gm.nth ws k)
    rw [cntW_next (by omega)]
    omega

end Go.Proofs.YtpahapjcdldodaaDoor
