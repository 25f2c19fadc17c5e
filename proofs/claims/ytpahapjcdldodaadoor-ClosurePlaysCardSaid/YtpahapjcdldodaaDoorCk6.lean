/- The closure: reading. No condition beyond those that each theorem says. -/
import Derived.Test.YtpahapjcdldodaaDoorCk5
namespace Go.Proofs.YtpahapjcdldodaaDoor
open Go Go.Gm
set_option linter.unusedVariables false
set_option linter.unusedSimpArgs false
set_option maxHeartbeats 4000000
set_option maxRecDepth 8000


theorem arc_c (u v : Int) (hu : 0 ≤ u ∧ u < 4096) (hv : 0 ≤ v ∧ v < 4096) : FnP Tryd.prog 45 [.int .i64 u, .int .i64 v] (.agg [.int .i32 u, .int .i32 v]) := by
  refine FnP.mk Tryd.func45 rfl Tryd.ntmps45 rfl ?_
  intro B a w F hB hfr hS
  refine wp_seq ?_
  refine region_q hS
    (cF rfl (oH [.int .i32 0, .int .i32 0] 101) trivial trivial
    Chain.nil)
    hB ?_
  clear hS; intro a w F hS
  replace hS := hS.sub
  obtain ⟨F, hS⟩ := hS.nm [4, 1, 0] [101, 0] rfl rfl
  try dsimp only [RS.sub, SF.sub, CF.sub, csub, Anc.sub, List.map, zCF] at hS
  generalize Act.tau a 4 = v4 at hS
  refine then_n (wp_seq ?_)
  refine region_q hS
    (cF rfl (oM .t) r1 trivial
    (cF rfl (o_conv Tryd.underlying21 (by kernel_rfl) .t) r1 trivial
    (cF rfl (oM .t) r1 trivial
    (cF rfl (o_conv Tryd.underlying21 (by kernel_rfl) .t) r1 trivial
    (cF rfl (o_buildA (sz := 1) (r := [(0, .tmp 6), (1, .tmp 8)]) (zs := [.int .i32 0, .int .i32 0]) (pl := [(0, 1), (1, 1)]) Tryd.underlying76 (by kernel_rfl) (by kernel_rfl) rfl (.one rfl .t one_int (by kernel_rfl) (.one rfl .t one_int (by kernel_rfl) .nil)) (by rfl)) r2 trivial
    (cF rfl (oA 2 101 .is .t) r2 r1
    Chain.nil))))))
    hB ?_
  clear hS; intro a w F hS
  obtain ⟨F, hS⟩ := hS.nm [4] [101, 0] rfl rfl
  try dsimp only [List.map, stCells, xL, xM, Nat.reduceAdd, xD, xE, xT, xU, xC, xN, zCF] at hS
  refine then_n (wp_ret ?_)
  rw [wrap_i32 (by omega), wrap_i32 (by omega)] at hS
  refine ret_P hfr hS rfl (.cell (n := 101) (ag := true) (sz := 2) rfl .is rfl (by kernel_rfl) (by kernel_rfl) (by kernel_rfl) .nil) (.one (.aggU rfl rfl))

theorem nodes_c (b n : Nat) (q : List PairD) (last : List Int) : FnG Tryd.prog 15 1 [.is (.pointer (some ⟨b, 0, none⟩))] [clH (.pointer (some ⟨b, 0, none⟩)) n q last] (.int .i64 n) (fun _ => [clH (.pointer (some ⟨b, 0, none⟩)) n q last]) := by
  refine FnG.mk Tryd.func15 rfl Tryd.ntmps15 rfl (by kernel_rfl) ?_
  intro B F0 a w F hB hG hS
  obtain ⟨sx, hS⟩ := hS.open_ex 1 rfl
  obtain ⟨hk, hS⟩ := hS.open_and 1 rfl
  dsimp only [cloParts] at hS
  obtain ⟨F, hS⟩ := hS.peel 1 2 rfl rfl
  obtain ⟨F, hS⟩ := hS.peel 1 3 rfl rfl
  obtain ⟨F, hS⟩ := hS.peel 1 4 rfl rfl
  obtain ⟨F, hS⟩ := hS.peel 1 5 rfl rfl
  obtain ⟨F, hS⟩ := hS.peel 1 6 rfl rfl
  obtain ⟨F, hS⟩ := hS.peel 1 7 rfl rfl
  have hhi := hk.hi
  have hnl := hk.nl
  have hrl := hk.rl
  have hinn := hk.inn
  obtain ⟨F, hS⟩ := hS.nm [0] [7, 6, 5, 4, 3, 2, 0] rfl rfl
  refine wp_seq ?_
  refine region_q hS
    (cF rfl (oN (.ci (by kernel_rfl))) trivial trivial
    Chain.nil)
    hB ?_
  clear hS; intro a w F hS
  obtain ⟨F, hS⟩ := hS.nm [2, 0] [7, 6, 5, 4, 3, 2, 0] rfl rfl
  try dsimp only [rV, mapC] at hS
  refine then_n (wp_seq (wp_seq ?_))
  refine region_q hS
    (cF rfl (oM .t) r1 trivial
    (cF rfl (o_nil_eql _ Tryd.underlying23 rfl .t) r1 trivial
    Chain.nil))
    hB ?_
  clear hS; intro a w F hS
  obtain ⟨F, hS⟩ := hS.nm [4, 2, 0] [7, 6, 5, 4, 3, 2, 0] rfl rfl
  try dsimp only [rV, mapC] at hS
  refine then_n ?_
  refine cond_b hS rfl (fun hc0 => ?_) (fun hc0 => ?_)
  ·skip
   simp at hc0
  refine wp_skip (then_n (wp_seq ?_))
  refine region_q hS
    (cF rfl (oM .t) r1 trivial
    (cF rfl (o_nilCheck 2 .is (by rfl)) r1 r1
    (cF rfl (oF 2 2 .adr) r1 r1
    (cF rfl (oL false 1 2 .adr) r1 r1
    (cF rfl (o_len_row 5 Tryd.underlying69 .is) r1 r1
    (cF rfl (oN .t) r1 trivial
    Chain.nil))))))
    hB ?_
  clear hS; intro a w F hS
  obtain ⟨F, hS⟩ := hS.nm [2] [7, 6, 5, 4, 3, 2, 0] rfl rfl
  try dsimp only [List.map, xD, xE, xT, xU, ldSF, rV, mapC] at hS
  refine then_n (wp_ret ?_)
  obtain ⟨F, hS⟩ := hS.nm [2] [7, 6, 5, 4, 3, 2, 0] rfl rfl
  have hS := hS.fresh 1 rfl
  obtain ⟨F, hS⟩ := hS.push 1 7 rfl rfl rfl (by kernel_rfl)
  obtain ⟨F, hS⟩ := hS.push 1 6 rfl rfl rfl (by kernel_rfl)
  obtain ⟨F, hS⟩ := hS.push 1 5 rfl rfl rfl (by kernel_rfl)
  obtain ⟨F, hS⟩ := hS.push 1 4 rfl rfl rfl (by kernel_rfl)
  obtain ⟨F, hS⟩ := hS.push 1 3 rfl rfl rfl (by kernel_rfl)
  obtain ⟨F, hS⟩ := hS.push 1 2 rfl rfl rfl (by kernel_rfl)
  have hS := hS.turn 1 rfl (r' := RS.hp (clH (.pointer (some ⟨b, 0, none⟩)) n q last)) (fun _ _ _ _ h => ⟨sx, hk, h⟩)
  obtain ⟨F, hS⟩ := hS.nm [2] [1, 0] rfl rfl
  refine ret_G1 hG hS rfl (.tmp rfl .nil) (.one (.int (by rw [hrl]))) rfl

theorem nodes_nil  : FnP Tryd.prog 15 [.is (.pointer none)] (.int .i64 0) := by
  refine FnP.mk Tryd.func15 rfl Tryd.ntmps15 rfl ?_
  intro B a w F hB hfr hS
  refine wp_seq ?_
  refine region_q hS
    (cF rfl (oN (.ci (by kernel_rfl))) trivial trivial
    Chain.nil)
    hB ?_
  clear hS; intro a w F hS
  obtain ⟨F, hS⟩ := hS.nm [2, 0] [0] rfl rfl
  refine then_n (wp_seq (wp_seq ?_))
  refine region_q hS
    (cF rfl (oM .t) r1 trivial
    (cF rfl (o_nil_eql _ Tryd.underlying23 rfl .t) r1 trivial
    Chain.nil))
    hB ?_
  clear hS; intro a w F hS
  obtain ⟨F, hS⟩ := hS.nm [4, 2, 0] [0] rfl rfl
  refine then_n ?_
  refine cond_b hS rfl (fun hc0 => ?_) (fun hc0 => ?_)
  ·skip
   refine wp_seq ?_
   refine region_q hS
     (cF rfl (oN (.ci (by kernel_rfl))) trivial trivial
     Chain.nil)
     hB ?_
   clear hS; intro a w F hS
   obtain ⟨F, hS⟩ := hS.nm [2, 0] [0] rfl rfl
   refine then_n (wp_ret (then_r ?_))
   refine ret_P hfr hS rfl (.tmp rfl .nil) (.one .refl)
  simp at hc0

theorem node_c (b n : Nat) (q : List PairD) (last : List Int) (u : Int) : FnG Tryd.prog 44 1 [.is (.pointer (some ⟨b, 0, none⟩)), .int .i64 u] [clH (.pointer (some ⟨b, 0, none⟩)) n q last] (.bool (decide (There n u))) (fun _ => [clH (.pointer (some ⟨b, 0, none⟩)) n q last]) := by
  refine FnG.mk Tryd.func44 rfl Tryd.ntmps44 rfl (by kernel_rfl) ?_
  intro B F0 a w F hB hG hS
  refine wp_seq ?_
  refine region_q hS
    (cF rfl (oN .cb) trivial trivial
    Chain.nil)
    hB ?_
  clear hS; intro a w F hS
  obtain ⟨F, hS⟩ := hS.nm [4, 1, 0] [1, 0] rfl rfl
  refine then_n (wp_seq ?_)
  refine region_q hS
    (cF rfl (oM .t) r1 trivial
    (cF rfl (o_geq .t (.ci (by kernel_rfl))) r1 trivial
    (cF rfl (oM .t) r1 trivial
    (Chain.cons (Cert.cond rfl rfl (fun h => o_move .t (by rfl))) r2 trivial
    (Chain.cons (Cert.cond rfl rfl (fun h => o_move .t (by rfl))) r2 trivial
    (Chain.cons (Cert.condR rfl rfl (by rfl) (fun h => o_callG1 1 (nodes_c b n q last) Tryd.func15 rfl (by kernel_rfl) (Args.one (.w h)))) r2 r1
    (Chain.cons (Cert.cond rfl rfl (fun h => o_lss (.w h) (.w h))) r3 trivial
    (cF rfl (o_and2 .t .t) r2 trivial
    (cF rfl (oN .t) r1 trivial
    Chain.nil)))))))))
    hB ?_
  clear hS; intro a w F hS
  obtain ⟨F, hS⟩ := hS.nm [4] [1, 0] rfl rfl
  refine then_n (wp_ret ?_)
  refine ret_G1 hG hS rfl (.tmp rfl .nil) (.one (.bool (by unfold There; by_cases h : 0 ≤ u <;> simp [h]))) rfl

theorem node_nil (u : Int) : FnP Tryd.prog 44 [.is (.pointer none), .int .i64 u] (.bool false) := by
  refine FnP.mk Tryd.func44 rfl Tryd.ntmps44 rfl ?_
  intro B a w F hB hfr hS
  refine wp_seq ?_
  refine region_q hS
    (cF rfl (oN .cb) trivial trivial
    Chain.nil)
    hB ?_
  clear hS; intro a w F hS
  obtain ⟨F, hS⟩ := hS.nm [4, 1, 0] [0] rfl rfl
  refine then_n (wp_seq ?_)
  refine region_q hS
    (cF rfl (oM .t) r1 trivial
    (cF rfl (o_geq .t (.ci (by kernel_rfl))) r1 trivial
    (cF rfl (oM .t) r1 trivial
    (Chain.cons (Cert.cond rfl rfl (fun h => o_move .t (by rfl))) r2 trivial
    (Chain.cons (Cert.cond rfl rfl (fun h => o_move .t (by rfl))) r2 trivial
    (Chain.cons (Cert.cond rfl rfl (fun h => o_callP (nodes_nil) Tryd.func15 rfl (by kernel_rfl) (Args.one (.w h)))) r2 trivial
    (Chain.cons (Cert.cond rfl rfl (fun h => o_lss (.w h) (.w h))) r3 trivial
    (cF rfl (o_and2 .t .t) r2 trivial
    (cF rfl (oN .t) r1 trivial
    Chain.nil)))))))))
    hB ?_
  clear hS; intro a w F hS
  obtain ⟨F, hS⟩ := hS.nm [4] [0] rfl rfl
  refine then_n (wp_ret ?_)
  refine ret_P hfr hS rfl (.tmp rfl .nil) (.one (.bool (by by_cases h : 0 ≤ u; (have h2 : ¬ u < 0 := by omega); (simp [h2]); (simp [h]))))
def arcsN (n : Nat) (q : List PairD) (u v : Int) : Int := if There n u ∧ There n v then ((q.count ⟨u, v⟩ : Nat) : Int) else 0

theorem arcs_c (b n : Nat) (q : List PairD) (last : List Int) (u v : Int) : FnG Tryd.prog 16 1 [.is (.pointer (some ⟨b, 0, none⟩)), .int .i64 u, .int .i64 v] [clH (.pointer (some ⟨b, 0, none⟩)) n q last] (.int .i64 (arcsN n q u v)) (fun _ => [clH (.pointer (some ⟨b, 0, none⟩)) n q last]) := by
  refine FnG.mk Tryd.func16 rfl Tryd.ntmps16 rfl (by kernel_rfl) ?_
  intro B F0 a w F hB hG hS
  obtain ⟨hhi, _⟩ := clH_ok (show (clH (.pointer (some ⟨b, 0, none⟩)) n q last).p _ _ _ from hS.r 1 _ rfl)
  refine wp_seq ?_
  refine region_q hS
    (cF rfl (oN (.ci (by kernel_rfl))) trivial trivial
    Chain.nil)
    hB ?_
  clear hS; intro a w F hS
  obtain ⟨F, hS⟩ := hS.nm [6, 2, 1, 0] [1, 0] rfl rfl
  try dsimp only [rV, mapC] at hS
  refine then_n (wp_seq (wp_seq ?_))
  refine region_q hS
    (cF rfl (oM .t) r1 trivial
    (cF rfl (oM .t) r1 trivial
    (cF rfl (o_callG1 1 (node_c b n q last u) Tryd.func44 rfl (by kernel_rfl) (Args.two .t .t)) r2 r1
    (cF rfl (o_not .t) r1 trivial
    (cF rfl (oM .t) r1 trivial
    (Chain.cons (Cert.cond rfl rfl (fun h => o_move .t (by rfl))) r2 trivial
    (Chain.cons (Cert.cond rfl rfl (fun h => o_move .t (by rfl))) r2 trivial
    (Chain.cons (Cert.condR rfl rfl (by rfl) (fun h => o_callG1 1 (node_c b n q last v) Tryd.func44 rfl (by kernel_rfl) (Args.two (.w h) (.w h)))) r3 r1
    (Chain.cons (Cert.cond rfl rfl (fun h => o_not (.w h))) r2 trivial
    (cF rfl (o_or2 .t .t) r2 trivial
    Chain.nil))))))))))
    hB ?_
  clear hS; intro a w F hS
  obtain ⟨F, hS⟩ := hS.nm [16, 6, 2, 1, 0] [1, 0] rfl rfl
  try dsimp only [rV, mapC] at hS
  refine then_n ?_
  refine cond_b hS rfl (fun hc0 => ?_) (fun hc0 => ?_)
  ·skip
   have hg : (0 : Int) = arcsN n q u v := by unfold arcsN; rw [if_neg]; rintro ⟨h1, h2⟩; simp [h1, h2] at hc0 <;> omega
   refine wp_seq ?_
   refine region_q hS
     (cF rfl (oN (.ci (by kernel_rfl))) trivial trivial
     Chain.nil)
     hB ?_
   clear hS; intro a w F hS
   obtain ⟨F, hS⟩ := hS.nm [6, 2, 1, 0] [1, 0] rfl rfl
   try dsimp only [rV, mapC] at hS
   refine then_n (wp_ret (then_r ?_))
   refine ret_G1 hG hS rfl (.tmp rfl .nil) (.one (.int hg)) rfl
  have hth : There n u ∧ There n v := by simp at hc0; omega
  obtain ⟨sx, hS⟩ := hS.open_ex 1 rfl
  obtain ⟨hk, hS⟩ := hS.open_and 1 rfl
  dsimp only [cloParts] at hS
  obtain ⟨F, hS⟩ := hS.peel 1 2 rfl rfl
  obtain ⟨F, hS⟩ := hS.peel 1 3 rfl rfl
  obtain ⟨F, hS⟩ := hS.peel 1 4 rfl rfl
  obtain ⟨F, hS⟩ := hS.peel 1 5 rfl rfl
  obtain ⟨F, hS⟩ := hS.peel 1 6 rfl rfl
  obtain ⟨F, hS⟩ := hS.peel 1 7 rfl rfl
  have hhi := hk.hi
  have hnl := hk.nl
  have hrl := hk.rl
  have hinn := hk.inn
  obtain ⟨F, hS⟩ := hS.nm [16, 6, 2, 1, 0] [7, 6, 5, 4, 3, 2, 0] rfl rfl
  refine wp_skip (then_n (wp_seq ?_))
  refine region_any (by kernel_rfl) hS (by kernel_rfl)
    (cF rfl (oM .t) r1 trivial
    (cF rfl (o_nilCheck 2 .is (by rfl)) r1 r1
    (cF rfl (oF 0 2 .adr) r1 r1
    (cF rfl (oL false 1 2 .adr) r1 r1
    (cF rfl (oM .t) r1 trivial
    (cF rfl (oM .t) r1 trivial
    (cF rfl (oP (arc_c u v (by omega) (by omega)) Tryd.func45 (Args.two .t .t)) r2 trivial
    (cF rfl (o_lookupG (ek := (fun c : Int => PV.int .i32 c)) (z0 := (0 : Int)) 3 Tryd.underlying68 (key_arr32 (enc := encP) (n := 2) (fun _ => rfl) encP_inj Tryd.underlying76 Tryd.underlying21 rfl) (by kernel_rfl) (fun _ _ => ⟨rfl, inR_i32 (by omega)⟩) .is (IsKeyOf.agg32 (enc := encP) (k := (⟨u, v⟩ : PairD)) .t rfl)) r2 r1
    (cF rfl (o_conv Tryd.underlying3 (by kernel_rfl) .t) r1 trivial
    (cF rfl (oN .t) r1 trivial
    Chain.nil))))))))))
    (by kernel_rfl) (by rw [hB]; kernel_rfl) ?_
  clear hS; intro a w F hS
  obtain ⟨F, hS⟩ := hS.nm [6] [7, 6, 5, 4, 3, 2, 0] rfl rfl
  try dsimp only [List.map, xD, xE, xT, xU, ldSF, rV, mapC] at hS
  rw [hk.cnt.get] at hS
  have hcl : q.count (⟨u, v⟩ : PairD) ≤ q.length := List.count_le_length
  have hql := hk.len
  rw [wrap_i64 (by omega)] at hS
  have hg : ((q.count (⟨u, v⟩ : PairD) : Nat) : Int) = arcsN n q u v := by unfold arcsN; rw [if_pos hth]
  refine then_n (wp_ret ?_)
  obtain ⟨F, hS⟩ := hS.nm [6] [7, 6, 5, 4, 3, 2, 0] rfl rfl
  have hS := hS.fresh 1 rfl
  obtain ⟨F, hS⟩ := hS.push 1 7 rfl rfl rfl (by kernel_rfl)
  obtain ⟨F, hS⟩ := hS.push 1 6 rfl rfl rfl (by kernel_rfl)
  obtain ⟨F, hS⟩ := hS.push 1 5 rfl rfl rfl (by kernel_rfl)
  obtain ⟨F, hS⟩ := hS.push 1 4 rfl rfl rfl (by kernel_rfl)
  obtain ⟨F, hS⟩ := hS.push 1 3 rfl rfl rfl (by kernel_rfl)
  obtain ⟨F, hS⟩ := hS.push 1 2 rfl rfl rfl (by kernel_rfl)
  have hS := hS.turn 1 rfl (r' := RS.hp (clH (.pointer (some ⟨b, 0, none⟩)) n q last)) (fun _ _ _ _ h => ⟨sx, hk, h⟩)
  obtain ⟨F, hS⟩ := hS.nm [6] [1, 0] rfl rfl
  refine ret_G1 hG hS rfl (.tmp rfl .nil) (.one (.int hg)) rfl

end Go.Proofs.YtpahapjcdldodaaDoor
