/- Components: Add, Drop, fresh. No condition beyond those that each theorem says. -/
import Derived.Test.YtpahapjcdldodaaDoorCo8
namespace Go.Proofs.YtpahapjcdldodaaDoor
open Go Go.Gm
set_option linter.unusedVariables false
set_option linter.unusedSimpArgs false
set_option maxHeartbeats 4000000
set_option maxRecDepth 8000


theorem cadd_c (b n : Nat) (q q0 : List PairD) (u v : Int) (hq1 : q.length < 1000000) : FnG Tryd.prog 40 1 [.is (.pointer (some ⟨b, 0, none⟩)), .int .i64 u, .int .i64 v] [coH (.pointer (some ⟨b, 0, none⟩)) n q q0] (.int .i64 (stepQ n q (⟨0, u, v⟩ : Deed4)).2) (fun _ => [coH (.pointer (some ⟨b, 0, none⟩)) n (stepQ n q (⟨0, u, v⟩ : Deed4)).1 q0]) := by
  refine FnG.mk Tryd.func40 rfl Tryd.ntmps40 rfl (by kernel_rfl) ?_
  intro B F0 a w F hB hG hS
  obtain ⟨sx, hS⟩ := hS.open_ex 1 rfl
  obtain ⟨hk, hS⟩ := hS.open_and 1 rfl
  dsimp only [coParts] at hS
  obtain ⟨F, hS⟩ := hS.peel 1 2 rfl rfl
  obtain ⟨F, hS⟩ := hS.peel 1 3 rfl rfl
  obtain ⟨F, hS⟩ := hS.peel 1 4 rfl rfl
  obtain ⟨F, hS⟩ := hS.peel 1 5 rfl rfl
  obtain ⟨F, hS⟩ := hS.peel 1 8 rfl rfl
  obtain ⟨F, hS⟩ := hS.peel 1 6 rfl rfl
  obtain ⟨F, hS⟩ := hS.peel 1 7 rfl rfl
  obtain ⟨F, hS⟩ := hS.peel 1 10 rfl rfl
  have hhi := hk.hi
  have hnl : sx.ns.length = n := hk.nl
  have hkl : sx.ks.length = n := hk.kl
  have hml : sx.ms.length = n := hk.ml
  have hinn := hk.inn
  have hup := hk.up
  have hql := hk.len
  obtain ⟨F, hS⟩ := hS.nm [2, 1, 0] [10, 8, 7, 6, 5, 4, 3, 2, 0] rfl rfl
  refine wp_seq ?_
  refine region_q hS
    (cF rfl (oN (.ci (by kernel_rfl))) trivial trivial
    Chain.nil)
    hB ?_
  clear hS; intro a w F hS
  obtain ⟨F, hS⟩ := hS.nm [6, 2, 1, 0] [10, 8, 7, 6, 5, 4, 3, 2, 0] rfl rfl
  try dsimp only [rV, rMk, mapS, rInt] at hS
  refine then_n (wp_seq (wp_seq ?_))
  refine region_q hS
    (cF rfl (oM .t) r1 trivial
    (cF rfl (o_nil_eql _ Tryd.underlying51 rfl .t) r1 trivial
    Chain.nil))
    hB ?_
  clear hS; intro a w F hS
  obtain ⟨F, hS⟩ := hS.nm [8, 6, 2, 1, 0] [10, 8, 7, 6, 5, 4, 3, 2, 0] rfl rfl
  try dsimp only [rV, rMk, mapS, rInt] at hS
  refine then_n ?_
  refine cond_b hS rfl (fun hc0 => ?_) (fun hc0 => ?_)
  ·skip
   simp at hc0
  refine wp_skip (then_n (wp_seq ?_))
  refine part_first 7 hS (by kernel_rfl)
    (cG rfl (oM .t) r1 trivial
    (cG rfl (oM .t) r1 trivial
    (cG rfl (oM .t) r1 trivial
    (cG rfl (oM .t) r1 trivial
    (cG rfl (o_nilCheck 2 .is (by rfl)) r1 r1
    (cG rfl (oF 0 2 .adr) r1 r1
    (cG rfl (oL false 1 2 .adr) r1 r1
    ChainN.nil)))))))
    (by kernel_rfl) (by rw [hB]; kernel_rfl) ?_
  clear hS; intro a w F hS
  obtain ⟨F, hS⟩ := hS.nm [15, 11, 10, 9, 6] [10, 8, 7, 6, 5, 4, 3, 2, 0] rfl rfl
  try dsimp only [List.map, xD, xE, xT, xU, ldSF, rV, rMk, mapS, rInt] at hS
  have hS := hS.fresh 1 rfl
  obtain ⟨F, hS⟩ := hS.push 1 10 rfl rfl rfl (by kernel_rfl)
  obtain ⟨F, hS⟩ := hS.push 1 7 rfl rfl rfl (by kernel_rfl)
  obtain ⟨F, hS⟩ := hS.push 1 6 rfl rfl rfl (by kernel_rfl)
  obtain ⟨F, hS⟩ := hS.push 1 8 rfl rfl rfl (by kernel_rfl)
  obtain ⟨F, hS⟩ := hS.push 1 5 rfl rfl rfl (by kernel_rfl)
  obtain ⟨F, hS⟩ := hS.push 1 4 rfl rfl rfl (by kernel_rfl)
  obtain ⟨F, hS⟩ := hS.push 1 3 rfl rfl rfl (by kernel_rfl)
  obtain ⟨F, hS⟩ := hS.push 1 2 rfl rfl rfl (by kernel_rfl)
  have hS := hS.turn 1 rfl (r' := RS.hp (coT (.pointer (some ⟨b, 0, none⟩)) n q sx)) (fun _ _ _ _ h => ⟨hk.toCoL, h⟩)
  obtain ⟨F, hS⟩ := hS.nm [15, 11, 10, 9, 6] [1, 0] rfl rfl
  refine part_last hS (by kernel_rfl)
    (cG rfl (o_makeFunc1 (Args.one .t)) r1 trivial
    (cG rfl (o_callG1 1 (change_c b n q sx u v 0 12 Tryd.f12 Tryd.func12 rfl (by kernel_rfl) (fun q last h9 => addV_c sx.av n q last u v h9) hq1) Tryd.func64 rfl (by kernel_rfl) (Args.four .t .t .t .t)) r4 r1
    (cG rfl (oN .t) r1 trivial
    ChainN.nil)))
    (by kernel_rfl) (by rw [hB]; kernel_rfl) ?_
  clear hS; intro a w F hS
  obtain ⟨F, hS⟩ := hS.nm [6] [1, 0] rfl rfl
  try dsimp only [rV, rMk, mapS, rInt] at hS
  refine then_n (wp_ret ?_)
  have hS := hS.turn 1 rfl (r' := RS.hp (coH (.pointer (some ⟨b, 0, none⟩)) n (stepQ n q (⟨0, u, v⟩ : Deed4)).1 q0)) (fun _ _ _ _ h => ⟨chS n q (⟨0, u, v⟩ : Deed4) sx, hk.ch h.1, h.2⟩)
  refine ret_G1 hG hS rfl (.tmp rfl .nil) (.one .refl) rfl

theorem cdrop_c (b n : Nat) (q q0 : List PairD) (u v : Int) (hq1 : q.length < 1000000) : FnG Tryd.prog 55 1 [.is (.pointer (some ⟨b, 0, none⟩)), .int .i64 u, .int .i64 v] [coH (.pointer (some ⟨b, 0, none⟩)) n q q0] (.int .i64 (stepQ n q (⟨1, u, v⟩ : Deed4)).2) (fun _ => [coH (.pointer (some ⟨b, 0, none⟩)) n (stepQ n q (⟨1, u, v⟩ : Deed4)).1 q0]) := by
  refine FnG.mk Tryd.func55 rfl Tryd.ntmps55 rfl (by kernel_rfl) ?_
  intro B F0 a w F hB hG hS
  obtain ⟨sx, hS⟩ := hS.open_ex 1 rfl
  obtain ⟨hk, hS⟩ := hS.open_and 1 rfl
  dsimp only [coParts] at hS
  obtain ⟨F, hS⟩ := hS.peel 1 2 rfl rfl
  obtain ⟨F, hS⟩ := hS.peel 1 3 rfl rfl
  obtain ⟨F, hS⟩ := hS.peel 1 4 rfl rfl
  obtain ⟨F, hS⟩ := hS.peel 1 5 rfl rfl
  obtain ⟨F, hS⟩ := hS.peel 1 8 rfl rfl
  obtain ⟨F, hS⟩ := hS.peel 1 6 rfl rfl
  obtain ⟨F, hS⟩ := hS.peel 1 7 rfl rfl
  obtain ⟨F, hS⟩ := hS.peel 1 10 rfl rfl
  have hhi := hk.hi
  have hnl : sx.ns.length = n := hk.nl
  have hkl : sx.ks.length = n := hk.kl
  have hml : sx.ms.length = n := hk.ml
  have hinn := hk.inn
  have hup := hk.up
  have hql := hk.len
  obtain ⟨F, hS⟩ := hS.nm [2, 1, 0] [10, 8, 7, 6, 5, 4, 3, 2, 0] rfl rfl
  refine wp_seq ?_
  refine region_q hS
    (cF rfl (oN (.ci (by kernel_rfl))) trivial trivial
    Chain.nil)
    hB ?_
  clear hS; intro a w F hS
  obtain ⟨F, hS⟩ := hS.nm [6, 2, 1, 0] [10, 8, 7, 6, 5, 4, 3, 2, 0] rfl rfl
  try dsimp only [rV, rMk, mapS, rInt] at hS
  refine then_n (wp_seq (wp_seq ?_))
  refine region_q hS
    (cF rfl (oM .t) r1 trivial
    (cF rfl (o_nil_eql _ Tryd.underlying51 rfl .t) r1 trivial
    Chain.nil))
    hB ?_
  clear hS; intro a w F hS
  obtain ⟨F, hS⟩ := hS.nm [8, 6, 2, 1, 0] [10, 8, 7, 6, 5, 4, 3, 2, 0] rfl rfl
  try dsimp only [rV, rMk, mapS, rInt] at hS
  refine then_n ?_
  refine cond_b hS rfl (fun hc0 => ?_) (fun hc0 => ?_)
  ·skip
   simp at hc0
  refine wp_skip (then_n (wp_seq ?_))
  refine part_first 7 hS (by kernel_rfl)
    (cG rfl (oM .t) r1 trivial
    (cG rfl (oM .t) r1 trivial
    (cG rfl (oM .t) r1 trivial
    (cG rfl (oM .t) r1 trivial
    (cG rfl (o_nilCheck 2 .is (by rfl)) r1 r1
    (cG rfl (oF 0 2 .adr) r1 r1
    (cG rfl (oL false 1 2 .adr) r1 r1
    ChainN.nil)))))))
    (by kernel_rfl) (by rw [hB]; kernel_rfl) ?_
  clear hS; intro a w F hS
  obtain ⟨F, hS⟩ := hS.nm [15, 11, 10, 9, 6] [10, 8, 7, 6, 5, 4, 3, 2, 0] rfl rfl
  try dsimp only [List.map, xD, xE, xT, xU, ldSF, rV, rMk, mapS, rInt] at hS
  have hS := hS.fresh 1 rfl
  obtain ⟨F, hS⟩ := hS.push 1 10 rfl rfl rfl (by kernel_rfl)
  obtain ⟨F, hS⟩ := hS.push 1 7 rfl rfl rfl (by kernel_rfl)
  obtain ⟨F, hS⟩ := hS.push 1 6 rfl rfl rfl (by kernel_rfl)
  obtain ⟨F, hS⟩ := hS.push 1 8 rfl rfl rfl (by kernel_rfl)
  obtain ⟨F, hS⟩ := hS.push 1 5 rfl rfl rfl (by kernel_rfl)
  obtain ⟨F, hS⟩ := hS.push 1 4 rfl rfl rfl (by kernel_rfl)
  obtain ⟨F, hS⟩ := hS.push 1 3 rfl rfl rfl (by kernel_rfl)
  obtain ⟨F, hS⟩ := hS.push 1 2 rfl rfl rfl (by kernel_rfl)
  have hS := hS.turn 1 rfl (r' := RS.hp (coT (.pointer (some ⟨b, 0, none⟩)) n q sx)) (fun _ _ _ _ h => ⟨hk.toCoL, h⟩)
  obtain ⟨F, hS⟩ := hS.nm [15, 11, 10, 9, 6] [1, 0] rfl rfl
  refine part_last hS (by kernel_rfl)
    (cG rfl (o_makeFunc1 (Args.one .t)) r1 trivial
    (cG rfl (o_callG1 1 (change_c b n q sx u v 1 13 Tryd.f13 Tryd.func13 rfl (by kernel_rfl) (fun q last h9 => dropV_c sx.av n q last u v) hq1) Tryd.func64 rfl (by kernel_rfl) (Args.four .t .t .t .t)) r4 r1
    (cG rfl (oN .t) r1 trivial
    ChainN.nil)))
    (by kernel_rfl) (by rw [hB]; kernel_rfl) ?_
  clear hS; intro a w F hS
  obtain ⟨F, hS⟩ := hS.nm [6] [1, 0] rfl rfl
  try dsimp only [rV, rMk, mapS, rInt] at hS
  refine then_n (wp_ret ?_)
  have hS := hS.turn 1 rfl (r' := RS.hp (coH (.pointer (some ⟨b, 0, none⟩)) n (stepQ n q (⟨1, u, v⟩ : Deed4)).1 q0)) (fun _ _ _ _ h => ⟨chS n q (⟨1, u, v⟩ : Deed4) sx, hk.ch h.1, h.2⟩)
  refine ret_G1 hG hS rfl (.tmp rfl .nil) (.one .refl) rfl

theorem cadd_nil (u v : Int) : FnP Tryd.prog 40 [.is (.pointer none), .int .i64 u, .int .i64 v] (.int .i64 1) := by
  refine FnP.mk Tryd.func40 rfl Tryd.ntmps40 rfl ?_
  intro B a w F hB hfr hS
  refine wp_seq ?_
  refine region_q hS
    (cF rfl (oN (.ci (by kernel_rfl))) trivial trivial
    Chain.nil)
    hB ?_
  clear hS; intro a w F hS
  obtain ⟨F, hS⟩ := hS.nm [6, 2, 1, 0] [0] rfl rfl
  refine then_n (wp_seq (wp_seq ?_))
  refine region_q hS
    (cF rfl (oM .t) r1 trivial
    (cF rfl (o_nil_eql _ Tryd.underlying51 rfl .t) r1 trivial
    Chain.nil))
    hB ?_
  clear hS; intro a w F hS
  obtain ⟨F, hS⟩ := hS.nm [8, 6, 2, 1, 0] [0] rfl rfl
  refine then_n ?_
  refine cond_b hS rfl (fun hc0 => ?_) (fun hc0 => ?_)
  ·skip
   refine wp_seq ?_
   refine region_q hS
     (cF rfl (oN (.ci (by kernel_rfl))) trivial trivial
     Chain.nil)
     hB ?_
   clear hS; intro a w F hS
   obtain ⟨F, hS⟩ := hS.nm [6, 2, 1, 0] [0] rfl rfl
   refine then_n (wp_ret (then_r ?_))
   refine ret_P hfr hS rfl (.tmp rfl .nil) (.one .refl)
  simp at hc0

def frB (n : Nat) (q : List PairD) (ms : List (Int × List Int)) (l : List Int) (y : Int) : Bool := decide ((Go.Gm.nth ms y.toNat).1 = Go.Gm.nth l 0) && decide ((Go.Gm.nth ms y.toNat).2 = innerL n q y l)

theorem fresh_c (b n : Nat) (q : List PairD) (sx : CoS) (l : List Int) (hl9 : ∀ y ∈ l, There n y) (hpos : 0 < l.length) (hll : l.length ≤ 1000000) : FnG Tryd.prog 58 1 [.is (.pointer (some ⟨b, 0, none⟩)), .sl rInt l] [coT (.pointer (some ⟨b, 0, none⟩)) n q sx] (.bool (freshQ n q sx.es sx.ms l)) (fun _ => [coT (.pointer (some ⟨b, 0, none⟩)) n q sx]) := by
  refine FnG.mk Tryd.func58 rfl Tryd.ntmps58 rfl (by kernel_rfl) ?_
  intro B F0 a w F hB hG hS
  obtain ⟨hk, hS⟩ := hS.open_and 1 rfl
  dsimp only [coParts] at hS
  obtain ⟨F, hS⟩ := hS.peel 1 2 rfl rfl
  obtain ⟨F, hS⟩ := hS.peel 1 3 rfl rfl
  obtain ⟨F, hS⟩ := hS.peel 1 4 rfl rfl
  obtain ⟨F, hS⟩ := hS.peel 1 5 rfl rfl
  obtain ⟨F, hS⟩ := hS.peel 1 8 rfl rfl
  obtain ⟨F, hS⟩ := hS.peel 1 6 rfl rfl
  obtain ⟨F, hS⟩ := hS.peel 1 7 rfl rfl
  obtain ⟨F, hS⟩ := hS.peel 1 10 rfl rfl
  have hhi := hk.hi
  have hnl : sx.ns.length = n := hk.nl
  have hkl : sx.ks.length = n := hk.kl
  have hml : sx.ms.length = n := hk.ml
  have hinn := hk.inn
  have hup := hk.up
  have hql := hk.len
  obtain ⟨F, hS⟩ := hS.nm [1, 0] [10, 8, 7, 6, 5, 4, 3, 2, 0] rfl rfl
  refine wp_seq ?_
  refine region_q hS
    (cF rfl (oN .cb) trivial trivial
    Chain.nil)
    hB ?_
  clear hS; intro a w F hS
  obtain ⟨F, hS⟩ := hS.nm [4, 1, 0] [10, 8, 7, 6, 5, 4, 3, 2, 0] rfl rfl
  try dsimp only [rV, rMk, mapS, rInt] at hS
  refine then_n (wp_seq (wp_seq ?_))
  refine region_any (by kernel_rfl) hS (by kernel_rfl)
    (cF rfl (oM .t) r1 trivial
    (cF rfl (o_nilCheck 2 .is (by rfl)) r1 r1
    (cF rfl (oF 3 2 .adr) r1 r1
    (cF rfl (oL false 1 2 .adr) r1 r1
    (cF rfl (oM .t) r1 trivial
    (cF rfl (o_indexAddr_sl (sz := 1) (.mk Tryd.underlying30 (by kernel_rfl)) (by intro x; rfl) .t (.ci (by kernel_rfl)) (by decide) (by omega)) r1 trivial
    (cF rfl (oR false 1 .t) r1 trivial
    (cF rfl (o_lookupG (ek := (fun c : Int => PV.int .i64 c)) (z0 := (0 : Int)) 8 Tryd.underlying84 (key_intG Tryd.underlying3) (by kernel_rfl) (fun _ _ => ⟨rfl, inR0⟩) .is (IsKeyOf.int .t rfl)) r2 r1
    (cF rfl (oM .t) r1 trivial
    (cF rfl (o_len_sl Tryd.underlying30 .t) r1 trivial
    (cF rfl (o_neq .t .t) r2 trivial
    Chain.nil)))))))))))
    (by kernel_rfl) (by rw [hB]; kernel_rfl) ?_
  clear hS; intro a w F hS
  obtain ⟨F, hS⟩ := hS.nm [17, 4, 1, 0] [10, 8, 7, 6, 5, 4, 3, 2, 0] rfl rfl
  try dsimp only [List.map, xD, xE, xT, xU, ldSF, rV, rMk, mapS, rInt] at hS
  try simp only [Int.toNat_natCast] at hS
  refine then_n ?_
  refine cond_b hS rfl (fun hc0 => ?_) (fun hc0 => ?_)
  ·skip
   have hg : false = freshQ n q sx.es sx.ms l := by unfold freshQ; rw [eq_comm, Bool.and_eq_false_iff]; exact .inl (by simpa using hc0)
   refine wp_seq ?_
   refine region_q hS
     (cF rfl (oN .cb) trivial trivial
     Chain.nil)
     hB ?_
   clear hS; intro a w F hS
   obtain ⟨F, hS⟩ := hS.nm [4, 1, 0] [10, 8, 7, 6, 5, 4, 3, 2, 0] rfl rfl
   try dsimp only [rV, rMk, mapS, rInt] at hS
   refine then_n (wp_ret (then_r ?_))
   have hS := hS.fresh 1 rfl
   obtain ⟨F, hS⟩ := hS.push 1 10 rfl rfl rfl (by kernel_rfl)
   obtain ⟨F, hS⟩ := hS.push 1 7 rfl rfl rfl (by kernel_rfl)
   obtain ⟨F, hS⟩ := hS.push 1 6 rfl rfl rfl (by kernel_rfl)
   obtain ⟨F, hS⟩ := hS.push 1 8 rfl rfl rfl (by kernel_rfl)
   obtain ⟨F, hS⟩ := hS.push 1 5 rfl rfl rfl (by kernel_rfl)
   obtain ⟨F, hS⟩ := hS.push 1 4 rfl rfl rfl (by kernel_rfl)
   obtain ⟨F, hS⟩ := hS.push 1 3 rfl rfl rfl (by kernel_rfl)
   obtain ⟨F, hS⟩ := hS.push 1 2 rfl rfl rfl (by kernel_rfl)
   have hS := hS.turn 1 rfl (r' := RS.hp (coT (.pointer (some ⟨b, 0, none⟩)) n q sx)) (fun _ _ _ _ h => ⟨hk, h⟩)
   obtain ⟨F, hS⟩ := hS.nm [4, 1, 0] [1, 0] rfl rfl
   refine ret_G1 hG hS rfl (.tmp rfl .nil) (.one (.bool hg)) rfl
  have hsz : (gGet (Go.Gm.nth l 0) sx.es).getD 0 = (l.length : Int) := by simpa using hc0
  refine wp_skip (then_n (wp_seq (wp_seq ?_)))
  refine region_q hS
    (cF rfl (oM .t) r1 trivial
    (cF rfl (o_len_sl Tryd.underlying30 .t) r1 trivial
    (cF rfl (oM (.ci (by kernel_rfl))) trivial trivial
    Chain.nil)))
    hB ?_
  clear hS; intro a w F hS
  obtain ⟨F, hS⟩ := hS.nm [20, 19, 18, 4, 1, 0] [10, 8, 7, 6, 5, 4, 3, 2, 0] rfl rfl
  try dsimp only [rV, rMk, mapS, rInt] at hS
  refine then_n (wp_block ?_)
  refine loop_keep (σ := (Nat)) [0, 1, 4, 18, 19] [0, 2, 3, 4, 5, 6, 7, 8, 10] (fun s => [(20, .pv (.int .i64 (s : Int)))]) (fun s => []) (fun s => s ≤ l.length ∧ ((l.take s).all (frB n q sx.ms l) = true)) (fun s => l.length - s) (0) hS ⟨rfl, rfl, rfl, rfl, rfl, rfl, trivial⟩ ⟨rfl, rfl, rfl, rfl, rfl, rfl, rfl, rfl, rfl, trivial⟩ ⟨Nat.zero_le _, rfl⟩ ?_
  clear hS; intro i a w F hC hS
  try dsimp only at hC
  obtain ⟨F, hS⟩ := hS.nm [20, 19, 18, 4, 1, 0] [10, 8, 7, 6, 5, 4, 3, 2, 0] rfl rfl
  try dsimp only at hS
  obtain ⟨hi, hq⟩ := hC
  refine wp_seq ?_
  refine region_q hS
    (cF rfl (o_lss .t .t) r2 trivial
    Chain.nil)
    hB ?_
  clear hS; intro a w F hS
  obtain ⟨F, hS⟩ := hS.nm [21, 20, 19, 18, 4, 1, 0] [10, 8, 7, 6, 5, 4, 3, 2, 0] rfl rfl
  try dsimp only [rV, rMk, mapS, rInt] at hS
  refine then_n (wp_seq ?_)
  refine cond_b hS rfl (fun hc1 => ?_) (fun hc1 => ?_)
  ·skip
   have hil : i < l.length := by simp at hc1; omega
   have hyt := hl9 _ (nth_mem hil)
   have hkx : (Go.Gm.nth l i).toNat < sx.ks.length := by have := hyt.1; have := hyt.2; omega
   refine wp_skip (then_n (wp_seq (wp_block (wp_seq ?_))))
   refine region_q hS
     (cF rfl (o_indexAddr_sl (sz := 1) (.mk Tryd.underlying30 (by kernel_rfl)) (by intro x; rfl) .t .t (by omega) (by omega)) r2 trivial
     (cF rfl (oR false 1 .t) r1 trivial
     (cF rfl (oN .t) r1 trivial
     Chain.nil)))
     hB ?_
   clear hS; intro a w F hS
   obtain ⟨F, hS⟩ := hS.nm [20, 19, 18, 6, 4, 1, 0] [10, 8, 7, 6, 5, 4, 3, 2, 0] rfl rfl
   try dsimp only [List.map, xD, xE, xT, xU, ldSF, rV, rMk, mapS, rInt] at hS
   try simp only [Int.toNat_natCast] at hS
   refine then_n (wp_seq ?_)
   by_cases hfk : ¬ (Go.Gm.nth sx.ms (Go.Gm.nth l i).toNat).1 = Go.Gm.nth l 0
   ·skip
    obtain ⟨F, hS⟩ := hS.takeAt (setP n) 7 61 ((Go.Gm.nth l i).toNat) rfl rfl (famL_at (by omega))
    replace hS := hS.turn 61 rfl (r' := RS.hp (setH (Go.Gm.nth sx.ks (Go.Gm.nth l i).toNat) n (Go.Gm.nth sx.ms (Go.Gm.nth l i).toNat).2)) (fun _ _ _ _ h => h)
    obtain ⟨F, hS⟩ := hS.nm [20, 19, 18, 6, 4, 1, 0] [61, 10, 8, 7, 6, 5, 4, 3, 2, 0] rfl rfl
    replace hS := Sat.tabOf hS 10 62 rfl rfl
    refine region_any (by kernel_rfl) hS (by kernel_rfl)
      (cF rfl (oM .t) r1 trivial
      (cF rfl (o_nilCheck 2 .is (by rfl)) r1 r1
      (cF rfl (oF 2 2 .adr) r1 r1
      (cF rfl (oL false 1 2 .adr) r1 r1
      (cF rfl (oM .t) r1 trivial
      (cF rfl (o_indexAddr_row (sz := 2) 5 (.mk Tryd.underlying85 (by kernel_rfl)) .is .t (by exact hyt.1) (by rw [mkL_len, hkl]; exact hyt.2) (by rfl)) r2 r1
      (cF rfl (o_fieldAddr_row (off := 0) (sz := 2) 5 .t (by rw [mkL_len, hkl]; omega) (by kernel_rfl) (by rfl)) r1 r1
      (cF rfl (o_load_row (ag := false) (sz' := 1) (sz := 2) 5 .t (by intro x; rfl) (by rw [mkL_len, hkl]; omega) (by kernel_rfl) (by kernel_rfl) (by kernel_rfl)) r1 r1
      (cF rfl (oM .t) r1 trivial
      (cF rfl (o_indexAddr_sl (sz := 1) (.mk Tryd.underlying30 (by kernel_rfl)) (by intro x; rfl) .t (.ci (by kernel_rfl)) (by decide) (by omega)) r1 trivial
      (cF rfl (oR false 1 .t) r1 trivial
      (cF rfl (o_neq .t .t) r2 trivial
      (cF rfl (oM .t) r1 trivial
      (Chain.cons (Cert.cond rfl rfl (fun h => (OpC.never (by simp only [mkL_nth hkx] at h; simp at h; exact hfk h)))) r1 trivial
      (Chain.cons (Cert.cond rfl rfl (fun h => (OpC.never (by simp only [mkL_nth hkx] at h; simp at h; exact hfk h)))) r1 trivial
      (Chain.cons (Cert.cond rfl rfl (fun h => (OpC.never (by simp only [mkL_nth hkx] at h; simp at h; exact hfk h)))) r1 trivial
      (Chain.cons (Cert.cond rfl rfl (fun h => (OpC.never (by simp only [mkL_nth hkx] at h; simp at h; exact hfk h)))) r1 trivial
      (Chain.cons (Cert.cond rfl rfl (fun h => (OpC.never (by simp only [mkL_nth hkx] at h; simp at h; exact hfk h)))) r1 trivial
      (Chain.cons (Cert.cond rfl rfl (fun h => (OpC.never (by simp only [mkL_nth hkx] at h; simp at h; exact hfk h)))) r1 trivial
      (Chain.cons (Cert.cond rfl rfl (fun h => (OpC.never (by simp only [mkL_nth hkx] at h; simp at h; exact hfk h)))) r1 trivial
      (Chain.cons (Cert.cond rfl rfl (fun h => (OpC.never (by simp only [mkL_nth hkx] at h; simp at h; exact hfk h)))) r1 trivial
      (Chain.cons (Cert.cond rfl rfl (fun h => (OpC.never (by simp only [mkL_nth hkx] at h; simp at h; exact hfk h)))) r1 trivial
      (Chain.cons (Cert.cond rfl rfl (fun h => (OpC.never (by simp only [mkL_nth hkx] at h; simp at h; exact hfk h)))) r1 trivial
      (Chain.cons (Cert.cond rfl rfl (fun h => (OpC.never (by simp only [mkL_nth hkx] at h; simp at h; exact hfk h)))) r1 trivial
      (Chain.cons (Cert.cond rfl rfl (fun h => (OpC.never (by simp only [mkL_nth hkx] at h; simp at h; exact hfk h)))) r1 trivial
      (Chain.cons (Cert.cond rfl rfl (fun h => (OpC.never (by simp only [mkL_nth hkx] at h; simp at h; exact hfk h)))) r1 trivial
      (Chain.cons (Cert.cond rfl rfl (fun h => (OpC.never (by simp only [mkL_nth hkx] at h; simp at h; exact hfk h)))) r1 trivial
      (cF rfl (o_or2 .t .t) r2 trivial
      Chain.nil))))))))))))))))))))))))))))
      (by kernel_rfl) (by rw [hB]; kernel_rfl) ?_
    clear hS; intro a w F hS
    obtain ⟨F, hS⟩ := hS.nm [51, 20, 19, 18, 4, 1, 0] [62, 61, 10, 8, 7, 6, 5, 4, 3, 2, 0] rfl rfl
    try dsimp only [List.map, xD, xE, xT, xU, ldSF, rV, rMk, mapS, rInt] at hS
    try simp only [Int.toNat_natCast] at hS
    obtain ⟨F, hS⟩ := hS.putBack (setP n) (L := famL sx.ks (fun k => (Go.Gm.nth sx.ms k).2)) 7 61 ((Go.Gm.nth l i).toNat) (famL_at (by omega)) rfl rfl rfl
    obtain ⟨F, hS⟩ := hS.nm [51, 20, 19, 18, 4, 1, 0] [10, 8, 7, 6, 5, 4, 3, 2, 0] rfl rfl
    refine then_n ?_
    refine cond_b hS rfl (fun hc2 => ?_) (fun hc2 => ?_)
    ·skip
     have hBf : frB n q sx.ms l (Go.Gm.nth l i) = false := by unfold frB; rw [decide_eq_false hfk]; rfl
     have hg : false = freshQ n q sx.es sx.ms l := by unfold freshQ; rw [eq_comm, Bool.and_eq_false_iff]; exact .inr (List.all_eq_false.2 ⟨_, nth_mem hil, by unfold frB at hBf; rw [hBf]; decide⟩)
     refine wp_seq ?_
     refine region_q hS
       (cF rfl (oN .cb) trivial trivial
       Chain.nil)
       hB ?_
     clear hS; intro a w F hS
     obtain ⟨F, hS⟩ := hS.nm [20, 19, 18, 4, 1, 0] [10, 8, 7, 6, 5, 4, 3, 2, 0] rfl rfl
     try dsimp only [rV, rMk, mapS, rInt] at hS
     refine then_n (wp_ret (block_r (then_r (then_r (block_r (then_r ?_))))))
     have hS := hS.fresh 1 rfl
     obtain ⟨F, hS⟩ := hS.push 1 10 rfl rfl rfl (by kernel_rfl)
     obtain ⟨F, hS⟩ := hS.push 1 7 rfl rfl rfl (by kernel_rfl)
     obtain ⟨F, hS⟩ := hS.push 1 6 rfl rfl rfl (by kernel_rfl)
     obtain ⟨F, hS⟩ := hS.push 1 8 rfl rfl rfl (by kernel_rfl)
     obtain ⟨F, hS⟩ := hS.push 1 5 rfl rfl rfl (by kernel_rfl)
     obtain ⟨F, hS⟩ := hS.push 1 4 rfl rfl rfl (by kernel_rfl)
     obtain ⟨F, hS⟩ := hS.push 1 3 rfl rfl rfl (by kernel_rfl)
     obtain ⟨F, hS⟩ := hS.push 1 2 rfl rfl rfl (by kernel_rfl)
     have hS := hS.turn 1 rfl (r' := RS.hp (coT (.pointer (some ⟨b, 0, none⟩)) n q sx)) (fun _ _ _ _ h => ⟨hk, h⟩)
     obtain ⟨F, hS⟩ := hS.nm [20, 19, 18, 4, 1, 0] [1, 0] rfl rfl
     refine ret_G1 hG hS rfl (.tmp rfl .nil) (.one (.bool hg)) rfl
    simp only [mkL_nth hkx] at hc2
    simp at hc2
    first | exact absurd hc2 hfk | exact absurd hc2.1 hfk
   obtain ⟨F, hS⟩ := hS.takeAt (setP n) 7 61 ((Go.Gm.nth l i).toNat) rfl rfl (famL_at (by omega))
   replace hS := hS.turn 61 rfl (r' := RS.hp (setH (Go.Gm.nth sx.ks (Go.Gm.nth l i).toNat) n (Go.Gm.nth sx.ms (Go.Gm.nth l i).toNat).2)) (fun _ _ _ _ h => h)
   obtain ⟨F, hS⟩ := hS.nm [20, 19, 18, 6, 4, 1, 0] [61, 10, 8, 7, 6, 5, 4, 3, 2, 0] rfl rfl
   replace hS := Sat.tabOf hS 10 62 rfl rfl
   refine region_any (by kernel_rfl) hS (by kernel_rfl)
     (cF rfl (oM .t) r1 trivial
     (cF rfl (o_nilCheck 2 .is (by rfl)) r1 r1
     (cF rfl (oF 2 2 .adr) r1 r1
     (cF rfl (oL false 1 2 .adr) r1 r1
     (cF rfl (oM .t) r1 trivial
     (cF rfl (o_indexAddr_row (sz := 2) 5 (.mk Tryd.underlying85 (by kernel_rfl)) .is .t (by exact hyt.1) (by rw [mkL_len, hkl]; exact hyt.2) (by rfl)) r2 r1
     (cF rfl (o_fieldAddr_row (off := 0) (sz := 2) 5 .t (by rw [mkL_len, hkl]; omega) (by kernel_rfl) (by rfl)) r1 r1
     (cF rfl (o_load_row (ag := false) (sz' := 1) (sz := 2) 5 .t (by intro x; rfl) (by rw [mkL_len, hkl]; omega) (by kernel_rfl) (by kernel_rfl) (by kernel_rfl)) r1 r1
     (cF rfl (oM .t) r1 trivial
     (cF rfl (o_indexAddr_sl (sz := 1) (.mk Tryd.underlying30 (by kernel_rfl)) (by intro x; rfl) .t (.ci (by kernel_rfl)) (by decide) (by omega)) r1 trivial
     (cF rfl (oR false 1 .t) r1 trivial
     (cF rfl (o_neq .t .t) r2 trivial
     (cF rfl (oM .t) r1 trivial
     (Chain.cons (Cert.run rfl rfl ((by simp only [mkL_nth hkx]; simpa using Decidable.not_not.1 hfk)) (o_move .t (by rfl))) r2 trivial
     (Chain.cons (Cert.run rfl rfl ((by simp only [mkL_nth hkx]; simpa using Decidable.not_not.1 hfk)) (o_nilCheck 2 .is (by rfl))) r2 r1
     (Chain.cons (Cert.run rfl rfl ((by simp only [mkL_nth hkx]; simpa using Decidable.not_not.1 hfk)) (oF 2 2 .adr)) r2 r1
     (Chain.cons (Cert.run rfl rfl ((by simp only [mkL_nth hkx]; simpa using Decidable.not_not.1 hfk)) (oL false 1 2 .adr)) r2 r1
     (Chain.cons (Cert.run rfl rfl ((by simp only [mkL_nth hkx]; simpa using Decidable.not_not.1 hfk)) (o_move .t (by rfl))) r2 trivial
     (Chain.cons (Cert.run rfl rfl ((by simp only [mkL_nth hkx]; simpa using Decidable.not_not.1 hfk)) (o_indexAddr_row (sz := 2) 5 (.mk Tryd.underlying85 (by kernel_rfl)) .is .t (by exact hyt.1) (by rw [mkL_len, hkl]; exact hyt.2) (by rfl))) r3 r1
     (Chain.cons (Cert.run rfl rfl ((by simp only [mkL_nth hkx]; simpa using Decidable.not_not.1 hfk)) (o_fieldAddr_row (off := 1) (sz := 2) 5 .t (by rw [mkL_len, hkl]; omega) (by kernel_rfl) (by rfl))) r2 r1
     (Chain.cons (Cert.run rfl rfl ((by simp only [mkL_nth hkx]; simpa using Decidable.not_not.1 hfk)) (o_load_row (ag := false) (sz' := 1) (sz := 2) 5 .t (by intro x; rfl) (by rw [mkL_len, hkl]; omega) (by kernel_rfl) (by kernel_rfl) (by kernel_rfl))) r2 r1
     (Chain.cons (Cert.run rfl rfl ((by simp only [mkL_nth hkx]; simpa using Decidable.not_not.1 hfk)) (o_move .t (by rfl))) r2 trivial
     (Chain.cons (Cert.run rfl rfl ((by simp only [mkL_nth hkx]; simpa using Decidable.not_not.1 hfk)) (o_move .t (by rfl))) r2 trivial
     (Chain.cons (Cert.run rfl rfl ((by simp only [mkL_nth hkx]; simpa using Decidable.not_not.1 hfk)) (o_move .t (by rfl))) r2 trivial
     (Chain.cons (Cert.run rfl rfl ((by simp only [mkL_nth hkx]; simpa using Decidable.not_not.1 hfk)) (OpC.lendL (ls := coLs 2 3 4 6 _ _ _ _ _ _ _ _ _ _) [45] (co_lend (by omega)) (o_callNg 62 (inner_c n q (Go.Gm.nth l i) l hhi hyt hll) Tryd.func63 rfl (by kernel_rfl) (Args.three .t .t .t) PV.ptr_one) ⟨rfl, trivial, trivial, trivial⟩ (fun _ _ _ _ _ h => h) (co_free (by omega)) (by simp [coLs, RS.deps, Anc.deps, cdeps, CF.deps, RS.hp]) (by rfl))) r4 r5
     (Chain.cons (Cert.run rfl rfl ((by simp only [mkL_nth hkx]; simpa using Decidable.not_not.1 hfk)) (OpC.ent (o_callF2 48 61 62 (fun v => sameV_c (Go.Gm.nth sx.ks (Go.Gm.nth l i).toNat) v n (Go.Gm.nth sx.ms (Go.Gm.nth l i).toNat).2 (innerL n q (Go.Gm.nth l i) l)) Tryd.func52 rfl (by kernel_rfl) rfl rfl (ArgsF.two (.of (.conv .t (Ent.isEq (by rw [mkL_nth (by omega)])))) .same)) Ent.fnC)) r3 r2
     (Chain.cons (Cert.run rfl rfl ((by simp only [mkL_nth hkx]; simpa using Decidable.not_not.1 hfk)) (o_not .t)) r2 trivial
     (cF rfl (o_or2 .t (.conv .t (Ent.sure (by simp only [mkL_nth hkx]; simpa using Decidable.not_not.1 hfk)))) r2 trivial
     Chain.nil))))))))))))))))))))))))))))
     (by kernel_rfl) (by rw [hB]; kernel_rfl) ?_
   clear hS; intro a w F hS
   replace hS := hS.sub
   obtain ⟨F, hS⟩ := hS.nm [51, 20, 19, 18, 4, 1, 0] [62, 61, 10, 8, 7, 6, 5, 4, 3, 2, 0] rfl rfl
   try dsimp only [RS.sub, SF.sub, CF.sub, csub, Anc.sub, List.map, xD, xE, xT, xU, ldSF, rV, rMk, mapS, rInt] at hS
   generalize Act.tau a 48 = v48 at hS
   try simp only [Int.toNat_natCast] at hS
   obtain ⟨F, hS⟩ := hS.putBack (setP n) (L := famL sx.ks (fun k => (Go.Gm.nth sx.ms k).2)) 7 61 ((Go.Gm.nth l i).toNat) (famL_at (by omega)) rfl rfl rfl
   obtain ⟨F, hS⟩ := hS.nm [51, 20, 19, 18, 4, 1, 0] [10, 8, 7, 6, 5, 4, 3, 2, 0] rfl rfl
   refine then_n ?_
   refine cond_b hS rfl (fun hc3 => ?_) (fun hc3 => ?_)
   ·skip
    have h9 := Decidable.not_not.1 hfk
    simp only [mkL_nth hkx] at hc3
    have hBf : frB n q sx.ms l (Go.Gm.nth l i) = false := by unfold frB; rw [decide_eq_true h9, Bool.true_and]; simpa [h9] using hc3
    have hg : false = freshQ n q sx.es sx.ms l := by unfold freshQ; rw [eq_comm, Bool.and_eq_false_iff]; exact .inr (List.all_eq_false.2 ⟨_, nth_mem hil, by unfold frB at hBf; rw [hBf]; decide⟩)
    refine wp_seq ?_
    refine region_q hS
      (cF rfl (oN .cb) trivial trivial
      Chain.nil)
      hB ?_
    clear hS; intro a w F hS
    obtain ⟨F, hS⟩ := hS.nm [20, 19, 18, 4, 1, 0] [10, 8, 7, 6, 5, 4, 3, 2, 0] rfl rfl
    try dsimp only [rV, rMk, mapS, rInt] at hS
    refine then_n (wp_ret (block_r (then_r (then_r (block_r (then_r ?_))))))
    have hS := hS.fresh 1 rfl
    obtain ⟨F, hS⟩ := hS.push 1 10 rfl rfl rfl (by kernel_rfl)
    obtain ⟨F, hS⟩ := hS.push 1 7 rfl rfl rfl (by kernel_rfl)
    obtain ⟨F, hS⟩ := hS.push 1 6 rfl rfl rfl (by kernel_rfl)
    obtain ⟨F, hS⟩ := hS.push 1 8 rfl rfl rfl (by kernel_rfl)
    obtain ⟨F, hS⟩ := hS.push 1 5 rfl rfl rfl (by kernel_rfl)
    obtain ⟨F, hS⟩ := hS.push 1 4 rfl rfl rfl (by kernel_rfl)
    obtain ⟨F, hS⟩ := hS.push 1 3 rfl rfl rfl (by kernel_rfl)
    obtain ⟨F, hS⟩ := hS.push 1 2 rfl rfl rfl (by kernel_rfl)
    have hS := hS.turn 1 rfl (r' := RS.hp (coT (.pointer (some ⟨b, 0, none⟩)) n q sx)) (fun _ _ _ _ h => ⟨hk, h⟩)
    obtain ⟨F, hS⟩ := hS.nm [20, 19, 18, 4, 1, 0] [1, 0] rfl rfl
    refine ret_G1 hG hS rfl (.tmp rfl .nil) (.one (.bool hg)) rfl
   have h9 := Decidable.not_not.1 hfk
   simp only [mkL_nth hkx] at hc3
   have hBq : frB n q sx.ms l (Go.Gm.nth l i) = true := by unfold frB; rw [decide_eq_true h9, Bool.true_and]; simpa [h9] using hc3
   refine wp_skip (block_n (then_n ?_))
   refine region_q hS
     (cF rfl (o_add .t (.ci (by kernel_rfl))) r1 trivial
     (cF rfl (oM .t) r1 trivial
     Chain.nil))
     hB ?_
   clear hS; intro a w F hS
   obtain ⟨F, hS⟩ := hS.nm [20, 19, 18, 4, 1, 0] [10, 8, 7, 6, 5, 4, 3, 2, 0] rfl rfl
   try dsimp only [rV, rMk, mapS, rInt] at hS
   refine then_n ?_
   replace hS := hS.ent (i := 20) (s' := .pv (.int .i64 ((i + 1 : Nat) : Int))) rfl (.int (wrap_succ (by omega)))
   obtain ⟨F, hS⟩ := hS.nm [19, 18, 4, 1, 0, 20] [10, 8, 7, 6, 5, 4, 3, 2, 0] rfl rfl
   exact ⟨(i + 1), F, ⟨by omega, (by rw [take_nth hil, List.all_append, hq]; simp [hBq])⟩, hS, by omega⟩
  have hil : i = l.length := by simp at hc1; omega
  have hg : true = freshQ n q sx.es sx.ms l := by unfold freshQ; rw [eq_comm, Bool.and_eq_true]; rw [hil, List.take_length] at hq; exact ⟨decide_eq_true hsz, hq⟩
  refine wp_exit (then_x (then_x (block_x (then_n (wp_seq ?_)))))
  refine region_q hS
    (cF rfl (oN .cb) trivial trivial
    Chain.nil)
    hB ?_
  clear hS; intro a w F hS
  obtain ⟨F, hS⟩ := hS.nm [4] [10, 8, 7, 6, 5, 4, 3, 2, 0] rfl rfl
  try dsimp only [rV, rMk, mapS, rInt] at hS
  refine then_n (wp_ret ?_)
  have hS := hS.fresh 1 rfl
  obtain ⟨F, hS⟩ := hS.push 1 10 rfl rfl rfl (by kernel_rfl)
  obtain ⟨F, hS⟩ := hS.push 1 7 rfl rfl rfl (by kernel_rfl)
  obtain ⟨F, hS⟩ := hS.push 1 6 rfl rfl rfl (by kernel_rfl)
  obtain ⟨F, hS⟩ := hS.push 1 8 rfl rfl rfl (by kernel_rfl)
  obtain ⟨F, hS⟩ := hS.push 1 5 rfl rfl rfl (by kernel_rfl)
  obtain ⟨F, hS⟩ := hS.push 1 4 rfl rfl rfl (by kernel_rfl)
  obtain ⟨F, hS⟩ := hS.push 1 3 rfl rfl rfl (by kernel_rfl)
  obtain ⟨F, hS⟩ := hS.push 1 2 rfl rfl rfl (by kernel_rfl)
  have hS := hS.turn 1 rfl (r' := RS.hp (coT (.pointer (some ⟨b, 0, none⟩)) n q sx)) (fun _ _ _ _ h => ⟨hk, h⟩)
  obtain ⟨F, hS⟩ := hS.nm [4] [1, 0] rfl rfl
  refine ret_G1 hG hS rfl (.tmp rfl .nil) (.one (.bool hg)) rfl

end Go.Proofs.YtpahapjcdldodaaDoor
