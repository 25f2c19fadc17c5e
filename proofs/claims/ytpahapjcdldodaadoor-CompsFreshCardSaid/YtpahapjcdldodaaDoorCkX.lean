/- Ck6, Ck7, Ck8, in one text. -/
import Derived.Test.YtpahapjcdldodaaDoorCk5
namespace Go.Proofs.YtpahapjcdldodaaDoor
open Go Go.Gm
set_option linter.unusedVariables false
set_option linter.unusedSimpArgs false
set_option maxHeartbeats 4000000
set_option maxRecDepth 8000


theorem arc_c (u v : Int) (hu : 0 ≤ u ∧ u < 4096) (hv : 0 ≤ v ∧ v < 4096) : FnP Tryd.prog 45 [.int .i64 u, .int .i64 v] (.agg [.int .i32 u, .int .i32 v]) := by
  refine FnP.mk Tryd.func45 rfl Tryd.ntmps45 rfl ?_
  intro B a w F hB hfr hS
  refine wp_seq ?_
  refine region_q hS
    (cF rfl (oH [.int .i32 0, .int .i32 0] 101) trivial trivial
    Chain.nil)
    hB ?_
  clear hS; intro a w F hS
  replace hS := hS.sub
  obtain ⟨F, hS⟩ := hS.nm [4, 1, 0] [101, 0] rfl rfl
  try dsimp only [RS.sub, SF.sub, CF.sub, csub, Anc.sub, List.map, zCF] at hS
  generalize Act.tau a 4 = v4 at hS
  refine then_n (wp_seq ?_)
  refine region_q hS
    (cF rfl (oM .t) r1 trivial
    (cF rfl (o_conv Tryd.underlying21 (by kernel_rfl) .t) r1 trivial
    (cF rfl (oM .t) r1 trivial
    (cF rfl (o_conv Tryd.underlying21 (by kernel_rfl) .t) r1 trivial
    (cF rfl (o_buildA (sz := 1) (r := [(0, .tmp 6), (1, .tmp 8)]) (zs := [.int .i32 0, .int .i32 0]) (pl := [(0, 1), (1, 1)]) Tryd.underlying76 (by kernel_rfl) (by kernel_rfl) rfl (.one rfl .t one_int (by kernel_rfl) (.one rfl .t one_int (by kernel_rfl) .nil)) (by rfl)) r2 trivial
    (cF rfl (oA 2 101 .is .t) r2 r1
    Chain.nil))))))
    hB ?_
  clear hS; intro a w F hS
  obtain ⟨F, hS⟩ := hS.nm [4] [101, 0] rfl rfl
  try dsimp only [List.map, stCells, xL, xM, Nat.reduceAdd, xD, xE, xT, xU, xC, xN, zCF] at hS
  refine then_n (wp_ret ?_)
  rw [wrap_i32 (by omega), wrap_i32 (by omega)] at hS
  refine ret_P hfr hS rfl (.cell (n := 101) (ag := true) (sz := 2) rfl .is rfl (by kernel_rfl) (by kernel_rfl) (by kernel_rfl) .nil) (.one (.aggU rfl rfl))

theorem nodes_c (b n : Nat) (q : List PairD) (last : List Int) : FnG Tryd.prog 15 1 [.is (.pointer (some ⟨b, 0, none⟩))] [clH (.pointer (some ⟨b, 0, none⟩)) n q last] (.int .i64 n) (fun _ => [clH (.pointer (some ⟨b, 0, none⟩)) n q last]) := by
  refine FnG.mk Tryd.func15 rfl Tryd.ntmps15 rfl (by kernel_rfl) ?_
  intro B F0 a w F hB hG hS
  obtain ⟨sx, hS⟩ := hS.open_ex 1 rfl
  obtain ⟨hk, hS⟩ := hS.open_and 1 rfl
  dsimp only [cloParts] at hS
  obtain ⟨F, hS⟩ := hS.peel 1 2 rfl rfl
  obtain ⟨F, hS⟩ := hS.peel 1 3 rfl rfl
  obtain ⟨F, hS⟩ := hS.peel 1 4 rfl rfl
  obtain ⟨F, hS⟩ := hS.peel 1 5 rfl rfl
  obtain ⟨F, hS⟩ := hS.peel 1 6 rfl rfl
  obtain ⟨F, hS⟩ := hS.peel 1 7 rfl rfl
  have hhi := hk.hi
  have hnl := hk.nl
  have hrl := hk.rl
  have hinn := hk.inn
  obtain ⟨F, hS⟩ := hS.nm [0] [7, 6, 5, 4, 3, 2, 0] rfl rfl
  refine wp_seq ?_
  refine region_q hS
    (cF rfl (oN (.ci (by kernel_rfl))) trivial trivial
    Chain.nil)
    hB ?_
  clear hS; intro a w F hS
  obtain ⟨F, hS⟩ := hS.nm [2, 0] [7, 6, 5, 4, 3, 2, 0] rfl rfl
  try dsimp only [rV, mapC] at hS
  refine then_n (wp_seq (wp_seq ?_))
  refine region_q hS
    (cF rfl (oM .t) r1 trivial
    (cF rfl (o_nil_eql _ Tryd.underlying23 rfl .t) r1 trivial
    Chain.nil))
    hB ?_
  clear hS; intro a w F hS
  obtain ⟨F, hS⟩ := hS.nm [4, 2, 0] [7, 6, 5, 4, 3, 2, 0] rfl rfl
  try dsimp only [rV, mapC] at hS
  refine then_n ?_
  refine cond_b hS rfl (fun hc0 => ?_) (fun hc0 => ?_)
  ·skip
   simp at hc0
  refine wp_skip (then_n (wp_seq ?_))
  refine region_q hS
    (cF rfl (oM .t) r1 trivial
    (cF rfl (o_nilCheck 2 .is (by rfl)) r1 r1
    (cF rfl (oF 2 2 .adr) r1 r1
    (cF rfl (oL false 1 2 .adr) r1 r1
    (cF rfl (o_len_row 5 Tryd.underlying69 .is) r1 r1
    (cF rfl (oN .t) r1 trivial
    Chain.nil))))))
    hB ?_
  clear hS; intro a w F hS
  obtain ⟨F, hS⟩ := hS.nm [2] [7, 6, 5, 4, 3, 2, 0] rfl rfl
  try dsimp only [List.map, xD, xE, xT, xU, ldSF, rV, mapC] at hS
  refine then_n (wp_ret ?_)
  obtain ⟨F, hS⟩ := hS.nm [2] [7, 6, 5, 4, 3, 2, 0] rfl rfl
  have hS := hS.fresh 1 rfl
  obtain ⟨F, hS⟩ := hS.push 1 7 rfl rfl rfl (by kernel_rfl)
  obtain ⟨F, hS⟩ := hS.push 1 6 rfl rfl rfl (by kernel_rfl)
  obtain ⟨F, hS⟩ := hS.push 1 5 rfl rfl rfl (by kernel_rfl)
  obtain ⟨F, hS⟩ := hS.push 1 4 rfl rfl rfl (by kernel_rfl)
  obtain ⟨F, hS⟩ := hS.push 1 3 rfl rfl rfl (by kernel_rfl)
  obtain ⟨F, hS⟩ := hS.push 1 2 rfl rfl rfl (by kernel_rfl)
  have hS := hS.turn 1 rfl (r' := RS.hp (clH (.pointer (some ⟨b, 0, none⟩)) n q last)) (fun _ _ _ _ h => ⟨sx, hk, h⟩)
  obtain ⟨F, hS⟩ := hS.nm [2] [1, 0] rfl rfl
  refine ret_G1 hG hS rfl (.tmp rfl .nil) (.one (.int (by rw [hrl]))) rfl

theorem node_c (b n : Nat) (q : List PairD) (last : List Int) (u : Int) : FnG Tryd.prog 44 1 [.is (.pointer (some ⟨b, 0, none⟩)), .int .i64 u] [clH (.pointer (some ⟨b, 0, none⟩)) n q last] (.bool (decide (There n u))) (fun _ => [clH (.pointer (some ⟨b, 0, none⟩)) n q last]) := by
  refine FnG.mk Tryd.func44 rfl Tryd.ntmps44 rfl (by kernel_rfl) ?_
  intro B F0 a w F hB hG hS
  refine wp_seq ?_
  refine region_q hS
    (cF rfl (oN .cb) trivial trivial
    Chain.nil)
    hB ?_
  clear hS; intro a w F hS
  obtain ⟨F, hS⟩ := hS.nm [4, 1, 0] [1, 0] rfl rfl
  refine then_n (wp_seq ?_)
  refine region_q hS
    (cF rfl (oM .t) r1 trivial
    (cF rfl (o_geq .t (.ci (by kernel_rfl))) r1 trivial
    (cF rfl (oM .t) r1 trivial
    (Chain.cons (Cert.cond rfl rfl (fun h => o_move .t (by rfl))) r2 trivial
    (Chain.cons (Cert.cond rfl rfl (fun h => o_move .t (by rfl))) r2 trivial
    (Chain.cons (Cert.condR rfl rfl (by rfl) (fun h => o_callG1 1 (nodes_c b n q last) Tryd.func15 rfl (by kernel_rfl) (Args.one (.w h)))) r2 r1
    (Chain.cons (Cert.cond rfl rfl (fun h => o_lss (.w h) (.w h))) r3 trivial
    (cF rfl (o_and2 .t .t) r2 trivial
    (cF rfl (oN .t) r1 trivial
    Chain.nil)))))))))
    hB ?_
  clear hS; intro a w F hS
  obtain ⟨F, hS⟩ := hS.nm [4] [1, 0] rfl rfl
  refine then_n (wp_ret ?_)
  refine ret_G1 hG hS rfl (.tmp rfl .nil) (.one (.bool (by unfold There; by_cases h : 0 ≤ u <;> simp [h]))) rfl

def arcsN (n : Nat) (q : List PairD) (u v : Int) : Int := if There n u ∧ There n v then ((q.count ⟨u, v⟩ : Nat) : Int) else 0

theorem arcs_c (b n : Nat) (q : List PairD) (last : List Int) (u v : Int) : FnG Tryd.prog 16 1 [.is (.pointer (some ⟨b, 0, none⟩)), .int .i64 u, .int .i64 v] [clH (.pointer (some ⟨b, 0, none⟩)) n q last] (.int .i64 (arcsN n q u v)) (fun _ => [clH (.pointer (some ⟨b, 0, none⟩)) n q last]) := by
  refine FnG.mk Tryd.func16 rfl Tryd.ntmps16 rfl (by kernel_rfl) ?_
  intro B F0 a w F hB hG hS
  obtain ⟨hhi, _⟩ := clH_ok (show (clH (.pointer (some ⟨b, 0, none⟩)) n q last).p _ _ _ from hS.r 1 _ rfl)
  refine wp_seq ?_
  refine region_q hS
    (cF rfl (oN (.ci (by kernel_rfl))) trivial trivial
    Chain.nil)
    hB ?_
  clear hS; intro a w F hS
  obtain ⟨F, hS⟩ := hS.nm [6, 2, 1, 0] [1, 0] rfl rfl
  try dsimp only [rV, mapC] at hS
  refine then_n (wp_seq (wp_seq ?_))
  refine region_q hS
    (cF rfl (oM .t) r1 trivial
    (cF rfl (oM .t) r1 trivial
    (cF rfl (o_callG1 1 (node_c b n q last u) Tryd.func44 rfl (by kernel_rfl) (Args.two .t .t)) r2 r1
    (cF rfl (o_not .t) r1 trivial
    (cF rfl (oM .t) r1 trivial
    (Chain.cons (Cert.cond rfl rfl (fun h => o_move .t (by rfl))) r2 trivial
    (Chain.cons (Cert.cond rfl rfl (fun h => o_move .t (by rfl))) r2 trivial
    (Chain.cons (Cert.condR rfl rfl (by rfl) (fun h => o_callG1 1 (node_c b n q last v) Tryd.func44 rfl (by kernel_rfl) (Args.two (.w h) (.w h)))) r3 r1
    (Chain.cons (Cert.cond rfl rfl (fun h => o_not (.w h))) r2 trivial
    (cF rfl (o_or2 .t .t) r2 trivial
    Chain.nil))))))))))
    hB ?_
  clear hS; intro a w F hS
  obtain ⟨F, hS⟩ := hS.nm [16, 6, 2, 1, 0] [1, 0] rfl rfl
  try dsimp only [rV, mapC] at hS
  refine then_n ?_
  refine cond_b hS rfl (fun hc0 => ?_) (fun hc0 => ?_)
  ·skip
   have hg : (0 : Int) = arcsN n q u v := by unfold arcsN; rw [if_neg]; rintro ⟨h1, h2⟩; simp [h1, h2] at hc0 <;> omega
   refine wp_seq ?_
   refine region_q hS
     (cF rfl (oN (.ci (by kernel_rfl))) trivial trivial
     Chain.nil)
     hB ?_
   clear hS; intro a w F hS
   obtain ⟨F, hS⟩ := hS.nm [6, 2, 1, 0] [1, 0] rfl rfl
   try dsimp only [rV, mapC] at hS
   refine then_n (wp_ret (then_r ?_))
   refine ret_G1 hG hS rfl (.tmp rfl .nil) (.one (.int hg)) rfl
  have hth : There n u ∧ There n v := by simp at hc0; omega
  obtain ⟨sx, hS⟩ := hS.open_ex 1 rfl
  obtain ⟨hk, hS⟩ := hS.open_and 1 rfl
  dsimp only [cloParts] at hS
  obtain ⟨F, hS⟩ := hS.peel 1 2 rfl rfl
  obtain ⟨F, hS⟩ := hS.peel 1 3 rfl rfl
  obtain ⟨F, hS⟩ := hS.peel 1 4 rfl rfl
  obtain ⟨F, hS⟩ := hS.peel 1 5 rfl rfl
  obtain ⟨F, hS⟩ := hS.peel 1 6 rfl rfl
  obtain ⟨F, hS⟩ := hS.peel 1 7 rfl rfl
  have hhi := hk.hi
  have hnl := hk.nl
  have hrl := hk.rl
  have hinn := hk.inn
  obtain ⟨F, hS⟩ := hS.nm [16, 6, 2, 1, 0] [7, 6, 5, 4, 3, 2, 0] rfl rfl
  refine wp_skip (then_n (wp_seq ?_))
  refine region_any (by kernel_rfl) hS (by kernel_rfl)
    (cF rfl (oM .t) r1 trivial
    (cF rfl (o_nilCheck 2 .is (by rfl)) r1 r1
    (cF rfl (oF 0 2 .adr) r1 r1
    (cF rfl (oL false 1 2 .adr) r1 r1
    (cF rfl (oM .t) r1 trivial
    (cF rfl (oM .t) r1 trivial
    (cF rfl (oP (arc_c u v (by omega) (by omega)) Tryd.func45 (Args.two .t .t)) r2 trivial
    (cF rfl (o_lookupG (ek := (fun c : Int => PV.int .i32 c)) (z0 := (0 : Int)) 3 Tryd.underlying68 (key_arr32 (enc := encP) (n := 2) (fun _ => rfl) encP_inj Tryd.underlying76 Tryd.underlying21 rfl) (by kernel_rfl) (fun _ _ => ⟨rfl, inR_i32 (by omega)⟩) .is (IsKeyOf.agg32 (enc := encP) (k := (⟨u, v⟩ : PairD)) .t rfl)) r2 r1
    (cF rfl (o_conv Tryd.underlying3 (by kernel_rfl) .t) r1 trivial
    (cF rfl (oN .t) r1 trivial
    Chain.nil))))))))))
    (by kernel_rfl) (by rw [hB]; kernel_rfl) ?_
  clear hS; intro a w F hS
  obtain ⟨F, hS⟩ := hS.nm [6] [7, 6, 5, 4, 3, 2, 0] rfl rfl
  try dsimp only [List.map, xD, xE, xT, xU, ldSF, rV, mapC] at hS
  rw [hk.cnt.get] at hS
  have hcl : q.count (⟨u, v⟩ : PairD) ≤ q.length := List.count_le_length
  have hql := hk.len
  rw [wrap_i64 (by omega)] at hS
  have hg : ((q.count (⟨u, v⟩ : PairD) : Nat) : Int) = arcsN n q u v := by unfold arcsN; rw [if_pos hth]
  refine then_n (wp_ret ?_)
  obtain ⟨F, hS⟩ := hS.nm [6] [7, 6, 5, 4, 3, 2, 0] rfl rfl
  have hS := hS.fresh 1 rfl
  obtain ⟨F, hS⟩ := hS.push 1 7 rfl rfl rfl (by kernel_rfl)
  obtain ⟨F, hS⟩ := hS.push 1 6 rfl rfl rfl (by kernel_rfl)
  obtain ⟨F, hS⟩ := hS.push 1 5 rfl rfl rfl (by kernel_rfl)
  obtain ⟨F, hS⟩ := hS.push 1 4 rfl rfl rfl (by kernel_rfl)
  obtain ⟨F, hS⟩ := hS.push 1 3 rfl rfl rfl (by kernel_rfl)
  obtain ⟨F, hS⟩ := hS.push 1 2 rfl rfl rfl (by kernel_rfl)
  have hS := hS.turn 1 rfl (r' := RS.hp (clH (.pointer (some ⟨b, 0, none⟩)) n q last)) (fun _ _ _ _ h => ⟨sx, hk, h⟩)
  obtain ⟨F, hS⟩ := hS.nm [6] [1, 0] rfl rfl
  refine ret_G1 hG hS rfl (.tmp rfl .nil) (.one (.int hg)) rfl

end Go.Proofs.YtpahapjcdldodaaDoor
namespace Go.Proofs.YtpahapjcdldodaaDoor
open Go Go.Gm
set_option linter.unusedVariables false
set_option linter.unusedSimpArgs false
set_option maxHeartbeats 4000000
set_option maxRecDepth 8000


theorem inR0 : inR .i64 0 := by show IntKind.min .i64 ≤ 0 ∧ 0 ≤ IntKind.max .i64; decide

end Go.Proofs.YtpahapjcdldodaaDoor
namespace Go.Proofs.YtpahapjcdldodaaDoor
open Go Go.Gm
set_option linter.unusedVariables false
set_option linter.unusedSimpArgs false
set_option maxHeartbeats 4000000
set_option maxRecDepth 8000


theorem cnew_c (room : Int) : FnG Tryd.prog 7 1 [.int .i64 room] [gH tabP tabV] (PV.ptr) (fun v => [clH v (roomN room) [] []]) := by
  refine FnG.mk Tryd.func7 rfl Tryd.ntmps7 rfl (by kernel_rfl) ?_
  intro B F0 a w F hB hG hS
  refine wp_seq ?_
  refine region_q hS
    (cF rfl (oN (.c rfl)) trivial trivial
    Chain.nil)
    hB ?_
  clear hS; intro a w F hS
  obtain ⟨F, hS⟩ := hS.nm [2, 0] [1, 0] rfl rfl
  try dsimp only [rV, mapC] at hS
  refine then_n (wp_seq ?_)
  refine region_q hS
    (cF rfl (oM .t) r1 trivial
    (cF rfl (o_max .t (.ci (by kernel_rfl))) r1 trivial
    (cF rfl (o_min .t (.ci (by kernel_rfl))) r1 trivial
    (cF rfl (oN .t) r1 trivial
    Chain.nil))))
    hB ?_
  clear hS; intro a w F hS
  obtain ⟨F, hS⟩ := hS.nm [2, 0] [1, 0] rfl rfl
  try dsimp only [rV, mapC] at hS
  rw [roomN_eq] at hS
  refine then_n (wp_seq ?_)
  refine region_q hS
    (cF rfl (o_makeMapG (ek := (fun c : Int => PV.int .i32 c)) (ok := (fun k : PairD => ∀ x ∈ encP k, inR .i32 x)) (kv := (kv32 encP)) 101) trivial trivial
    (cF rfl (oB [(0, .tmp 7)] [.map none, .slice none 0 0, .slice none 0 0, .slice none 0 0] [(0, 1), (1, 1), (2, 1), (3, 1)] (.same rfl (by kernel_rfl) .nil)) r1 trivial
    (cF rfl (oX 102 .t) r1 trivial
    (cF rfl (oN .t) r1 trivial
    Chain.nil))))
    hB ?_
  clear hS; intro a w F hS
  replace hS := hS.sub
  obtain ⟨F, hS⟩ := hS.nm [3, 2, 0] [102, 101, 1, 0] rfl rfl
  try dsimp only [RS.sub, SF.sub, CF.sub, csub, Anc.sub, List.map, stCells, xL, xM, Nat.reduceAdd, xD, xE, xT, xU, xC, xN, zCF, rV, mapC] at hS
  generalize Act.tau a 9 = v9 at hS
  generalize Act.tau a 7 = v7 at hS
  refine then_n (wp_seq (wp_seq ?_))
  refine region_q hS
    (cF rfl (oM .t) r1 trivial
    (cF rfl (oM (.ci (by kernel_rfl))) trivial trivial
    Chain.nil))
    hB ?_
  clear hS; intro a w F hS
  obtain ⟨F, hS⟩ := hS.nm [11, 10, 3, 2, 0] [102, 101, 1, 0] rfl rfl
  try dsimp only [rV, mapC] at hS
  replace hS := hS.fresh 50 rfl
  replace hS := hS.turn 50 rfl (nilRow (T := 72) (sz := 1) (R := rV))
  replace hS := hS.fresh 51 rfl
  replace hS := hS.turn 51 rfl (nilRow (T := 72) (sz := 1) (R := rV))
  replace hS := hS.fresh 60 rfl
  replace hS := hS.turn 60 rfl (r' := famS (setP (roomN room)) (famL [] (fun k => nextQ [] (roomN room) (k : Int)))) (fun _ _ _ _ h => h)
  obtain ⟨F, hS⟩ := hS.nm [11, 10, 3, 2, 0] [102, 101, 60, 51, 50, 1, 0] rfl rfl
  replace hS := hS.fresh 61 rfl
  replace hS := hS.turn 61 rfl (r' := famS (setP (roomN room)) (famL [] (fun k => reachQ [] (k : Int)))) (fun _ _ _ _ h => h)
  obtain ⟨F, hS⟩ := hS.nm [11, 10, 3, 2, 0] [102, 101, 61, 60, 51, 50, 1, 0] rfl rfl
  refine then_n (wp_block ?_)
  refine loop_keep (σ := Nat × Value × List Value × Value × List Value) [0, 2, 3, 10] [0, 1, 101] (fun s => [(11, .pv (.int .i64 (s.1 : Int)))]) (fun s => [(102, .pt (.val v9) 71 [.pv (.is v7), .pv (.is s.2.1), .pv (.is s.2.2.2.1), .pv (.is (.slice none 0 0))]), (50, .ob (.val s.2.1) (rowH 72 1 rV s.2.2.1)), (51, .ob (.val s.2.2.2.1) (rowH 72 1 rV s.2.2.2.2)), (60, famS (setP (roomN room)) (famL s.2.2.1 (fun k => nextQ [] (roomN room) (k : Int)))), (61, famS (setP (roomN room)) (famL s.2.2.2.2 (fun k => reachQ [] (k : Int))))]) (fun s => s.1 ≤ (roomN room) ∧ s.2.2.1.length = s.1 ∧ s.2.2.2.2.length = s.1) (fun s => (roomN room) - s.1) ((0), (.slice none 0 0), ([]), (.slice none 0 0), ([])) hS ⟨rfl, rfl, rfl, rfl, rfl, trivial⟩ ⟨rfl, rfl, rfl, rfl, rfl, rfl, rfl, rfl, trivial⟩ ⟨Nat.zero_le _, rfl, rfl⟩ ?_
  clear hS; intro s a w F hC hS
  obtain ⟨i, u1, p1, u2, p2⟩ := s
  try dsimp only at hC
  obtain ⟨F, hS⟩ := hS.nm [11, 10, 3, 2, 0] [102, 101, 61, 60, 51, 50, 1, 0] rfl rfl
  try dsimp only at hS
  obtain ⟨hi, hp1, hp2⟩ := hC
  refine wp_seq ?_
  refine region_q hS
    (cF rfl (o_lss .t .t) r2 trivial
    Chain.nil)
    hB ?_
  clear hS; intro a w F hS
  obtain ⟨F, hS⟩ := hS.nm [12, 11, 10, 3, 2, 0] [102, 101, 61, 60, 51, 50, 1, 0] rfl rfl
  try dsimp only [rV, mapC] at hS
  refine then_n (wp_seq ?_)
  refine cond_b hS rfl (fun hc0 => ?_) (fun hc0 => ?_)
  ·skip
   have hil : i < (roomN room) := by simp at hc0; omega
   have hrl := roomN_le room
   refine wp_skip (then_n (wp_seq (wp_block (wp_seq ?_))))
   replace hS := hS.dupG 1 70 rfl rfl
   refine region_any (by kernel_rfl) hS (by kernel_rfl)
     (cF rfl (oM .t) r1 trivial
     (cF rfl (oM .t) r1 trivial
     (cF rfl (o_nilCheck 102 .is (by rfl)) r1 r1
     (cF rfl (oF 1 102 .adr) r1 r1
     (cF rfl (oL false 1 102 .adr) r1 r1
     (cF rfl (oM .t) r1 trivial
     (cF rfl (o_callNg 70 (newS_c (((roomN room) : Nat) : Int)) Tryd.func41 rfl (by kernel_rfl) (Args.one .t) PV.ptr_one) r1 r1
     (cF rfl (o_fnSame (i := 19) (j := 19) (p := fun z => .arr 1 [.is z]) (by rfl) (fun z => o_buildSliceE (sz := 1) (zs := [.pointer none]) (r := [(0, .tmp 19)]) (l := [_]) Tryd.underlying69 (by kernel_rfl) (by kernel_rfl) (by kernel_rfl) (by kernel_rfl) rfl rfl (.one rfl .t one_is (by kernel_rfl) .nil) rfl)) r1 trivial
     (cF rfl (o_fnOb (i := 20) (j := 19) (by rfl) (fun z => o_append (sz := 1) (bs := 8) 50 (.mk' Tryd.underlying69 (by kernel_rfl) (by kernel_rfl)) (by intro x; rfl) .is (.arr (l' := [z]) .t) (by simp only [List.length_append, List.length_cons, List.length_nil]; omega) (by decide))) ⟨rfl, rfl, trivial⟩ ⟨rfl, trivial⟩
     (cF rfl (o_nilCheck 102 .is (by rfl)) r1 r1
     (cF rfl (oF 1 102 .adr) r1 r1
     (cF rfl (o_storeS 102 .adr (by kernel_rfl) (by kernel_rfl)) r2 r1
     Chain.nil))))))))))))
     (by kernel_rfl) (by rw [hB]; kernel_rfl) ?_
   clear hS; intro a w F hS
   replace hS := hS.sub
   obtain ⟨F, hS⟩ := hS.nm [23, 22, 21, 20, 19, 18, 17, 16, 15, 14, 13, 12, 11, 10, 3, 2, 0] [102, 101, 70, 61, 60, 51, 50, 1, 0] rfl rfl
   try dsimp only [RS.sub, SF.sub, CF.sub, csub, Anc.sub, List.map, stCells, xL, xM, Nat.reduceAdd, xD, xE, xT, xU, xC, xN, zCF, ldSF, rV, mapC] at hS
   generalize Act.tau a 19 = v19 at hS
   generalize Act.tau a 21 = v21 at hS
   rw [rowN_nat (by omega)] at hS
   replace hS := hS.turn 70 rfl (r' := RS.hp (setP (roomN room) (v19, []))) (fun _ _ _ _ h => h)
   obtain ⟨F, hS⟩ := Sat.pushFam (setP (roomN room)) (L := famL p1 (fun k => nextQ [] (roomN room) (k : Int))) (x := (v19, [])) hS 60 70 rfl rfl rfl
   rw [famL_push' (by exact (nextQ_nil _ _).symm)] at hS
   obtain ⟨F, hS⟩ := hS.nm [23, 22, 21, 20, 19, 18, 17, 16, 15, 14, 13, 12, 11, 10, 3, 2, 0] [102, 101, 61, 60, 51, 50, 1, 0] rfl rfl
   refine then_n ?_
   replace hS := hS.dupG 1 71 rfl rfl
   refine region_any (by kernel_rfl) hS (by kernel_rfl)
     (cF rfl (oM .t) r1 trivial
     (cF rfl (oM .t) r1 trivial
     (cF rfl (o_nilCheck 102 .is (by rfl)) r1 r1
     (cF rfl (oF 2 102 .adr) r1 r1
     (cF rfl (oL false 1 102 .adr) r1 r1
     (cF rfl (oM .t) r1 trivial
     (cF rfl (o_callNg 71 (newS_c (((roomN room) : Nat) : Int)) Tryd.func41 rfl (by kernel_rfl) (Args.one .t) PV.ptr_one) r1 r1
     (cF rfl (o_fnSame (i := 30) (j := 30) (p := fun z => .arr 1 [.is z]) (by rfl) (fun z => o_buildSliceE (sz := 1) (zs := [.pointer none]) (r := [(0, .tmp 30)]) (l := [_]) Tryd.underlying69 (by kernel_rfl) (by kernel_rfl) (by kernel_rfl) (by kernel_rfl) rfl rfl (.one rfl .t one_is (by kernel_rfl) .nil) rfl)) r1 trivial
     (cF rfl (o_fnOb (i := 31) (j := 30) (by rfl) (fun z => o_append (sz := 1) (bs := 8) 51 (.mk' Tryd.underlying69 (by kernel_rfl) (by kernel_rfl)) (by intro x; rfl) .is (.arr (l' := [z]) .t) (by simp only [List.length_append, List.length_cons, List.length_nil]; omega) (by decide))) ⟨rfl, rfl, trivial⟩ ⟨rfl, trivial⟩
     (cF rfl (o_nilCheck 102 .is (by rfl)) r1 r1
     (cF rfl (oF 2 102 .adr) r1 r1
     (cF rfl (o_storeS 102 .adr (by kernel_rfl) (by kernel_rfl)) r2 r1
     Chain.nil))))))))))))
     (by kernel_rfl) (by rw [hB]; kernel_rfl) ?_
   clear hS; intro a w F hS
   replace hS := hS.sub
   obtain ⟨F, hS⟩ := hS.nm [34, 33, 32, 31, 30, 29, 28, 27, 26, 25, 24, 23, 22, 21, 20, 19, 18, 17, 16, 15, 14, 13, 12, 11, 10, 3, 2, 0] [102, 101, 71, 61, 60, 51, 50, 1, 0] rfl rfl
   try dsimp only [RS.sub, SF.sub, CF.sub, csub, Anc.sub, List.map, stCells, xL, xM, Nat.reduceAdd, xD, xE, xT, xU, xC, xN, zCF, ldSF, rV, mapC] at hS
   generalize Act.tau a 30 = v30 at hS
   generalize Act.tau a 32 = v32 at hS
   rw [rowN_nat (by omega)] at hS
   replace hS := hS.turn 71 rfl (r' := RS.hp (setP (roomN room) (v30, []))) (fun _ _ _ _ h => h)
   obtain ⟨F, hS⟩ := Sat.pushFam (setP (roomN room)) (L := famL p2 (fun k => reachQ [] (k : Int))) (x := (v30, [])) hS 61 71 rfl rfl rfl
   rw [famL_push' (by exact (reachQ_nil _).symm)] at hS
   obtain ⟨F, hS⟩ := hS.nm [34, 33, 32, 31, 30, 29, 28, 27, 26, 25, 24, 23, 22, 21, 20, 19, 18, 17, 16, 15, 14, 13, 12, 11, 10, 3, 2, 0] [102, 101, 61, 60, 51, 50, 1, 0] rfl rfl
   refine block_n (then_n ?_)
   refine region_q hS
     (cF rfl (o_add .t (.ci (by kernel_rfl))) r1 trivial
     (cF rfl (oM .t) r1 trivial
     Chain.nil))
     hB ?_
   clear hS; intro a w F hS
   obtain ⟨F, hS⟩ := hS.nm [35, 34, 33, 32, 31, 30, 29, 28, 27, 26, 25, 24, 23, 22, 21, 20, 19, 18, 17, 16, 15, 14, 13, 12, 11, 10, 3, 2, 0] [102, 101, 61, 60, 51, 50, 1, 0] rfl rfl
   try dsimp only [rV, mapC] at hS
   refine then_n ?_
   replace hS := hS.ent (i := 11) (s' := .pv (.int .i64 ((i + 1 : Nat) : Int))) rfl (.int (wrap_succ (by omega)))
   obtain ⟨F, hS⟩ := hS.nm [10, 3, 2, 0, 11] [101, 1, 0, 61, 60, 51, 50, 102] rfl rfl
   exact ⟨((i + 1), (v21), ((p1 ++ [v19])), (v32), ((p2 ++ [v30]))), F, ⟨by omega, by rw [List.length_append, List.length_singleton, hp1], by rw [List.length_append, List.length_singleton, hp2]⟩, hS, (by show _ - (i + 1) < _ - i; omega)⟩
  have hil : i = (roomN room) := by simp at hc0; omega
  refine wp_exit (then_x (then_x (block_x (then_n (wp_seq ?_)))))
  refine region_q hS
    (cF rfl (oM .t) r1 trivial
    (cF rfl (oN .t) r1 trivial
    Chain.nil))
    hB ?_
  clear hS; intro a w F hS
  obtain ⟨F, hS⟩ := hS.nm [2] [102, 101, 61, 60, 51, 50, 1, 0] rfl rfl
  try dsimp only [rV, mapC] at hS
  refine then_n (wp_ret ?_)
  obtain ⟨b, rfl⟩ := hS.shape 102 rfl
  replace hS := hS.fresh 52 rfl
  replace hS := hS.turn 52 rfl (nilRow (T := 3) (sz := 1) (R := rInt))
  obtain ⟨F, hS⟩ := hS.giveCell 52 102 3 rfl rfl rfl rfl rfl
  try dsimp only [List.set] at hS
  obtain ⟨F, hS⟩ := hS.nm [2] [61, 60, 51, 50, 101, 102, 0] rfl rfl
  have hS := hS.fresh 1 rfl
  obtain ⟨F, hS⟩ := hS.push 1 61 rfl rfl rfl (by kernel_rfl)
  obtain ⟨F, hS⟩ := hS.push 1 60 rfl rfl rfl (by kernel_rfl)
  obtain ⟨F, hS⟩ := hS.push 1 51 rfl rfl rfl (by kernel_rfl)
  obtain ⟨F, hS⟩ := hS.push 1 50 rfl rfl rfl (by kernel_rfl)
  obtain ⟨F, hS⟩ := hS.push 1 101 rfl rfl rfl (by kernel_rfl)
  obtain ⟨F, hS⟩ := hS.push 1 102 rfl rfl rfl (by kernel_rfl)
  have hS := hS.turn 1 rfl (r' := RS.hp (clH (.pointer (some ⟨b, 0, none⟩)) (roomN room) [] [])) (fun _ _ _ _ h => ⟨(⟨v7, u1, u2, p1, p2, [], 0⟩ : CloS), CloOk.new (roomN_le room) (by show p1.length = _; omega) (by show p2.length = _; omega) rfl, h⟩)
  refine ret_N1 (h' := fun v => clH v (roomN room) [] []) hG hS rfl (.tmp rfl .nil) (.one .ptr) rfl

end Go.Proofs.YtpahapjcdldodaaDoor
