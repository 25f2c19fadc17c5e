/- Who reaches whom: the document. No condition beyond those that each theorem says. -/
import Derived.Test.YtpahapjcdldodaaDoorCk2
namespace Go.Proofs.YtpahapjcdldodaaDoor
open Go Go.Gm
set_option linter.unusedVariables false
set_option linter.unusedSimpArgs false
set_option maxHeartbeats 4000000
set_option maxRecDepth 8000


/-- What is reached, in the midst of a round. -/
theorem mid_reach (l : List ArcD) (u : Int) (k j : Nat) : IncI (roundA (l.take j) (iterA l k (nextA l u))) ∧ (roundA (l.take j) (iterA l k (nextA l u))).length ≤ l.length := by
  obtain ⟨hn1, hn2⟩ := nextA_inc l u
  obtain ⟨h1, _, _, h4, _⟩ := iterA_spec (P := fun _ => True) (l := l) (fun _ _ _ => trivial) k (nextA l u) hn1 (fun _ _ => trivial) (fun v hv => by obtain ⟨a, ha, _, k⟩ := (hn2 v).1 hv; exact ⟨a, ha, k⟩)
  obtain ⟨g1, _, _, g4, _, _⟩ := roundA_spec (P := fun _ => True) (l.take j) _ h1 (fun _ _ => trivial) (fun _ _ _ => trivial)
  refine ⟨g1, ?_⟩
  have := inc_sub_len (d := l.map ArcD.dst) g1 fun v hv => by
    rcases g4 v hv with hv | ⟨x, hx, hk⟩
    · obtain ⟨a, ha, k⟩ := h4 v hv; exact List.mem_map.2 ⟨a, ha, k⟩
    · exact List.mem_map.2 ⟨x, List.mem_of_mem_take hx, hk⟩
  rwa [List.length_map] at this
theorem roundA_next {l : List ArcD} {o : List Int} {j : Nat} (h : j < l.length) : roundA (l.take (j + 1)) o = reachStep (roundA (l.take j) o) (Go.Gm.nth l j) := by
  rw [take_nth h]; unfold roundA; rw [List.foldl_append]; rfl
theorem reachA_len (l : List ArcD) (u : Int) : (reachA l u).length ≤ l.length := (mid_reach l u (l.length + 1) 0).2
theorem foldA_len : ∀ (l acc : List ArcD), (l.foldl (putG cmpA) acc).length ≤ acc.length + l.length
  | [], acc => by simp
  | e :: l, acc => by
    have h1 := foldA_len l (putG cmpA acc e)
    have h2 : (putRG cmpA e acc false).length ≤ acc.length + 1 := by simpa using putRG_len cmpA e acc false
    have h3 : (putG cmpA acc e).length = (putRG cmpA e acc false).length := rfl
    rw [List.foldl_cons, List.length_cons]
    omega
theorem arcsQ_len (q : List PairD) : (arcsQ q).length ≤ q.length := by have := foldA_len (q.map arcP) []; rw [List.length_nil, Nat.zero_add, List.length_map] at this; exact this
theorem reachQ_len (q : List PairD) (u : Int) : (reachQ q u).length ≤ q.length := Nat.le_trans (reachA_len _ _) (arcsQ_len q)
def rRow (l : List Int) : List PV := [.sl rInt l]
theorem eqPD (a b : PairD) : (decide (a.key = b.key) && (decide (a.val = b.val) && true)) = decide (a = b) := by
  cases a; cases b
  rw [Bool.eq_iff_iff]
  simp
theorem count_next {q : List PairD} {p : PairD} {i : Nat} (h : i < q.length) : (q.take (i + 1)).count p = (q.take i).count p + (if Go.Gm.nth q i = p then 1 else 0) := by
  rw [take_nth h, List.count_append, List.count_singleton]
  by_cases e : Go.Gm.nth q i = p <;> simp [e]
def dropS (d : Bool) (p : PairD) (l : List PairD) : List PairD := if d then l else l.erase p
theorem drop_TT {out t r : List PairD} {p x : PairD} (h : out ++ dropS false p (x :: t) = r) (e : x = p) : out ++ dropS true p t = r := by
  subst e; rw [← h]; simp [dropS]
theorem drop_FT {out t r : List PairD} {p x : PairD} {d : Bool} (h : out ++ dropS d p (x :: t) = r) (e : ¬ (d = false ∧ x = p)) : (out ++ [x]) ++ dropS d p t = r := by
  rw [← h, List.append_assoc]
  congr 1
  cases d
  · have hx : ¬ x = p := fun h => e ⟨rfl, h⟩
    simp [dropS, List.erase_cons, hx]
  · simp [dropS]
structure Deed4 where
  kind : Int
  u : Int
  v : Int
  deriving DecidableEq, Inhabited
def rDeed4 (d : Deed4) : List PV := [.int .i64 d.kind, .int .i64 d.u, .int .i64 d.v]
abbrev There (n : Nat) (u : Int) : Prop := 0 ≤ u ∧ u < n
def stepQ (n : Nat) (q : List PairD) (d : Deed4) : List PairD × Int :=
  if There n d.u ∧ There n d.v then (if d.kind = 0 then (q ++ [⟨d.u, d.v⟩], 0) else if q.count ⟨d.u, d.v⟩ = 0 then (q, 3) else (q.erase ⟨d.u, d.v⟩, 0)) else (q, 1)
theorem stepQ_out {n : Nat} {q : List PairD} {d : Deed4} (h : ¬ (There n d.u ∧ There n d.v)) : stepQ n q d = (q, 1) := if_neg h
theorem otherL_part (a b : List (List Int)) (i : Nat) : (((List.range i).filter fun i => !decide (Go.Gm.nth a i = Go.Gm.nth b i)).map fun i : Nat => (i : Int)).length ≤ i := by
  rw [List.length_map]
  exact Nat.le_trans (List.length_filter_le _ _) (by simp)

theorem arcs24_c (q : List PairD) (hl : q.length ≤ 900000) : FnP Tryd.prog 33 [.sl rPair q] (.sl rArc (arcsQ q)) := by
  refine FnP.mk Tryd.func33 rfl Tryd.ntmps33 rfl ?_
  intro B a w F hB hfr hS
  have hll := Sat.lenSl hS (i := 0) rfl
  refine wp_seq ?_
  refine region_q hS
    (cF rfl (oN (.c rfl)) trivial trivial
    Chain.nil)
    hB ?_
  clear hS; intro a w F hS
  obtain ⟨F, hS⟩ := hS.nm [2, 0] [0] rfl rfl
  try dsimp only [rArc, rInt, rPair] at hS
  refine then_n (wp_seq ?_)
  refine region_q hS
    (cF rfl (oN (.c rfl)) trivial trivial
    Chain.nil)
    hB ?_
  clear hS; intro a w F hS
  obtain ⟨F, hS⟩ := hS.nm [3, 2, 0] [0] rfl rfl
  try dsimp only [rArc, rInt, rPair] at hS
  refine then_n (wp_seq (wp_seq ?_))
  refine region_q hS
    (cF rfl (oM .t) r1 trivial
    (cF rfl (o_len_sl Tryd.underlying27 .t) r1 trivial
    (cF rfl (oM (.ci (by kernel_rfl))) trivial trivial
    Chain.nil)))
    hB ?_
  clear hS; intro a w F hS
  obtain ⟨F, hS⟩ := hS.nm [8, 7, 6, 3, 2] [0] rfl rfl
  try dsimp only [rArc, rInt, rPair] at hS
  refine then_n (wp_block ?_)
  replace hS := hS.ent (i := 3) (s' := .pv (.sl rArc [])) rfl (.nilSl)
  refine loop_keep (σ := (Nat)) [2, 6, 7] [0] (fun s => [(8, .pv (.int .i64 (s : Int))), (3, .pv (.sl rArc (((q.take s).map arcP).foldl (putG cmpA) [])))]) (fun s => []) (fun s => s ≤ q.length ∧ (True)) (fun s => q.length - s) (0) hS ⟨rfl, rfl, rfl, rfl, rfl, trivial⟩ ⟨rfl, trivial⟩ ⟨Nat.zero_le _, trivial⟩ ?_
  clear hS; intro i a w F hC hS
  try dsimp only at hC
  obtain ⟨F, hS⟩ := hS.nm [8, 7, 6, 3, 2] [0] rfl rfl
  try dsimp only at hS
  obtain ⟨hi, hq⟩ := hC
  have hal := foldA_len ((q.take i).map arcP) []
  rw [List.length_map, List.length_take, List.length_nil] at hal
  refine wp_seq ?_
  refine region_q hS
    (cF rfl (o_lss .t .t) r2 trivial
    Chain.nil)
    hB ?_
  clear hS; intro a w F hS
  obtain ⟨F, hS⟩ := hS.nm [9, 8, 7, 6, 3, 2] [0] rfl rfl
  try dsimp only [rArc, rInt, rPair] at hS
  refine then_n (wp_seq ?_)
  refine cond_b hS rfl (fun hc0 => ?_) (fun hc0 => ?_)
  ·skip
   have hil : i < q.length := by simp at hc0; omega
   refine wp_skip (then_n (wp_seq (wp_block (wp_seq ?_))))
   refine region_q hS
     (cF rfl (o_indexAddr_sl (sz := 2) (.mk Tryd.underlying27 (by kernel_rfl)) (by intro x; rfl) .t .t (by omega) (by omega)) r2 trivial
     (cF rfl (oR true 2 .t) r1 trivial
     (cF rfl (oH [.int .i64 0, .int .i64 0] 101) trivial trivial
     (cF rfl (oA 2 101 .same .t) r2 r1
     Chain.nil))))
     hB ?_
   clear hS; intro a w F hS
   replace hS := hS.sub
   obtain ⟨F, hS⟩ := hS.nm [11, 10, 9, 8, 7, 6, 5, 3, 2] [101, 0] rfl rfl
   try dsimp only [RS.sub, SF.sub, CF.sub, csub, Anc.sub, List.map, stCells, xL, xM, Nat.reduceAdd, xD, xE, xT, xU, xC, xN, zCF, ldSF, rArc, rInt, rPair] at hS
   generalize Act.tau a 5 = v5 at hS
   try simp only [Int.toNat_natCast] at hS
   refine then_n ?_
   refine region_q hS
     (cF rfl (oM .t) r1 trivial
     (cF rfl (oF 0 101 .is) r1 r1
     (cF rfl (oL false 1 101 .adr) r1 r1
     (cF rfl (oF 1 101 .is) r1 r1
     (cF rfl (oL false 1 101 .adr) r1 r1
     (cF rfl (oB [(0, .tmp 14), (1, .tmp 16), (2, _)] [.int .i64 0, .int .i64 0, .int .i64 0, .int .i64 0] [(0, 1), (1, 1), (2, 1), (3, 1)] (.one rfl .t one_int (by kernel_rfl) (.one rfl .t one_int (by kernel_rfl) (.one rfl (.ci (by kernel_rfl)) one_int (by kernel_rfl) .nil)))) r2 trivial
     (cF rfl (oP (put22_c _ (arcP (Go.Gm.nth q i)) (by omega)) Tryd.func60 (Args.two .t (.pagg .t))) r2 trivial
     (cF rfl (oN .t) r1 trivial
     Chain.nil))))))))
     hB ?_
   clear hS; intro a w F hS
   obtain ⟨F, hS⟩ := hS.nm [18, 17, 16, 15, 14, 13, 12, 11, 10, 9, 8, 7, 6, 5, 3, 2] [101, 0] rfl rfl
   try dsimp only [List.map, stCells, xL, xM, Nat.reduceAdd, xD, xE, xT, xU, xC, xN, zCF, ldSF, rArc, rInt, rPair] at hS
   refine block_n (then_n ?_)
   refine region_q hS
     (cF rfl (o_add .t (.ci (by kernel_rfl))) r1 trivial
     (cF rfl (oM .t) r1 trivial
     Chain.nil))
     hB ?_
   clear hS; intro a w F hS
   obtain ⟨F, hS⟩ := hS.nm [19, 18, 17, 16, 15, 14, 13, 12, 11, 10, 9, 8, 7, 6, 5, 3, 2] [101, 0] rfl rfl
   try dsimp only [rArc, rInt, rPair] at hS
   refine then_n ?_
   replace hS := hS.ent (i := 8) (s' := .pv (.int .i64 ((i + 1 : Nat) : Int))) rfl (.int (wrap_succ (by omega)))
   replace hS := hS.ent (i := 3) (s' := .pv (.sl rArc (((q.take (i + 1)).map arcP).foldl (putG cmpA) []))) rfl (Ent.eqSl (by rw [take_nth hil, List.map_append, List.foldl_append]; rfl))
   obtain ⟨F, hS⟩ := hS.nm [7, 6, 2, 3, 8] [0] rfl rfl
   exact ⟨(i + 1), F, ⟨by omega, trivial⟩, hS, by omega⟩
  have hil : i = q.length := by simp at hc0; omega
  refine wp_exit (then_x (then_x (block_x (then_n (wp_seq ?_)))))
  refine region_q hS
    (cF rfl (oM .t) r1 trivial
    (cF rfl (oN .t) r1 trivial
    Chain.nil))
    hB ?_
  clear hS; intro a w F hS
  obtain ⟨F, hS⟩ := hS.nm [2] [0] rfl rfl
  try dsimp only [rArc, rInt, rPair] at hS
  refine then_n (wp_ret ?_)
  refine ret_P hfr hS rfl (.tmp rfl .nil) (.one (.sl (by rw [hil, List.take_length]; rfl)))

theorem reach23_c (l : List ArcD) (u : Int) (hl : l.length ≤ 900000) : FnP Tryd.prog 42 [.sl rArc l, .int .i64 u] (.sl rInt (reachA l u)) := by
  refine FnP.mk Tryd.func42 rfl Tryd.ntmps42 rfl ?_
  intro B a w F hB hfr hS
  have hll := Sat.lenSl hS (i := 0) rfl
  refine wp_seq ?_
  refine region_q hS
    (cF rfl (oN (.c rfl)) trivial trivial
    Chain.nil)
    hB ?_
  clear hS; intro a w F hS
  obtain ⟨F, hS⟩ := hS.nm [4, 1, 0] [0] rfl rfl
  try dsimp only [rArc, rInt, rPair] at hS
  refine then_n (wp_seq ?_)
  refine region_q hS
    (cF rfl (oM .t) r1 trivial
    (cF rfl (oM .t) r1 trivial
    (cF rfl (oP (next22_c l u hl) Tryd.func65 (Args.three .t .t .cb)) r2 trivial
    (cF rfl (oN .t) r1 trivial
    Chain.nil))))
    hB ?_
  clear hS; intro a w F hS
  obtain ⟨F, hS⟩ := hS.nm [5, 4, 0] [0] rfl rfl
  try dsimp only [rArc, rInt, rPair] at hS
  refine then_n (wp_seq (wp_seq ?_))
  refine region_q hS
    (cF rfl (oN (.ci (by kernel_rfl))) trivial trivial
    Chain.nil)
    hB ?_
  clear hS; intro a w F hS
  obtain ⟨F, hS⟩ := hS.nm [6, 5, 4, 0] [0] rfl rfl
  try dsimp only [rArc, rInt, rPair] at hS
  refine then_n (wp_block ?_)
  refine loop_keep (σ := Nat) [0, 4] [0] (fun s => [(5, .pv (.sl rInt (iterA l s (nextA l u)))), (6, .pv (.int .i64 (s : Int)))]) (fun s => []) (fun s => s ≤ l.length + 1) (fun s => l.length + 1 - s) (0) hS ⟨rfl, rfl, rfl, rfl, trivial⟩ ⟨rfl, trivial⟩ (Nat.zero_le _) ?_
  clear hS; intro k a w F hC hS
  try dsimp only at hC
  obtain ⟨F, hS⟩ := hS.nm [6, 5, 4, 0] [0] rfl rfl
  try dsimp only at hS
  have hk : k ≤ l.length + 1 := hC
  refine wp_seq (wp_seq ?_)
  refine region_q hS
    (cF rfl (oM .t) r1 trivial
    (cF rfl (oM .t) r1 trivial
    (cF rfl (o_len_sl Tryd.underlying60 .t) r1 trivial
    (cF rfl (o_leq .t .t) r2 trivial
    Chain.nil))))
    hB ?_
  clear hS; intro a w F hS
  obtain ⟨F, hS⟩ := hS.nm [15, 14, 13, 12, 6, 5, 4, 0] [0] rfl rfl
  try dsimp only [rArc, rInt, rPair] at hS
  refine then_n ?_
  refine cond_b hS rfl (fun hc0 => ?_) (fun hc0 => ?_)
  ·skip
   have hkl : k ≤ l.length := by simp at hc0; omega
   refine wp_skip (then_n (wp_seq (wp_block (wp_seq ?_))))
   refine region_q hS
     (cF rfl (oM .t) r1 trivial
     (cF rfl (o_len_sl Tryd.underlying60 .t) r1 trivial
     (cF rfl (oM (.ci (by kernel_rfl))) trivial trivial
     Chain.nil)))
     hB ?_
   clear hS; intro a w F hS
   obtain ⟨F, hS⟩ := hS.nm [20, 19, 18, 15, 14, 13, 12, 6, 5, 4, 0] [0] rfl rfl
   try dsimp only [rArc, rInt, rPair] at hS
   refine then_n (wp_block ?_)
   replace hS := hS.ent (i := 5) (s' := .pv (.sl rInt (roundA (l.take 0) (iterA l k (nextA l u))))) rfl (Ent.eqSl rfl)
   refine loop_keep (σ := (Nat)) [0, 4, 6, 12, 13, 14, 15, 18, 19] [0] (fun s => [(20, .pv (.int .i64 (s : Int))), (5, .pv (.sl rInt (roundA (l.take s) (iterA l k (nextA l u)))))]) (fun s => []) (fun s => s ≤ l.length ∧ (True)) (fun s => l.length - s) (0) hS ⟨rfl, rfl, rfl, rfl, rfl, rfl, rfl, rfl, rfl, rfl, rfl, trivial⟩ ⟨rfl, trivial⟩ ⟨Nat.zero_le _, trivial⟩ ?_
   clear hS; intro j a w F hC hS
   try dsimp only at hC
   obtain ⟨F, hS⟩ := hS.nm [20, 19, 18, 15, 14, 13, 12, 6, 5, 4, 0] [0] rfl rfl
   try dsimp only at hS
   obtain ⟨hi, hq⟩ := hC
   have hml := (mid_reach l u k j).2
   refine wp_seq ?_
   refine region_q hS
     (cF rfl (o_lss .t .t) r2 trivial
     Chain.nil)
     hB ?_
   clear hS; intro a w F hS
   obtain ⟨F, hS⟩ := hS.nm [21, 20, 19, 18, 15, 14, 13, 12, 6, 5, 4, 0] [0] rfl rfl
   try dsimp only [rArc, rInt, rPair] at hS
   refine then_n (wp_seq ?_)
   refine cond_b hS rfl (fun hc1 => ?_) (fun hc1 => ?_)
   ·skip
    have hil : j < l.length := by simp at hc1; omega
    refine wp_skip (then_n (wp_seq (wp_block (wp_seq ?_))))
    refine region_q hS
      (cF rfl (o_indexAddr_sl (sz := 4) (.mk Tryd.underlying60 (by kernel_rfl)) (by intro x; rfl) .t .t (by omega) (by omega)) r2 trivial
      (cF rfl (oR true 4 .t) r1 trivial
      (cF rfl (oH [.int .i64 0, .int .i64 0, .int .i64 0, .int .i64 0] 101) trivial trivial
      (cF rfl (oA 4 101 .same .t) r2 r1
      Chain.nil))))
      hB ?_
    clear hS; intro a w F hS
    replace hS := hS.sub
    obtain ⟨F, hS⟩ := hS.nm [23, 22, 21, 20, 19, 18, 15, 14, 13, 12, 8, 6, 5, 4, 0] [101, 0] rfl rfl
    try dsimp only [RS.sub, SF.sub, CF.sub, csub, Anc.sub, List.map, stCells, xL, xM, Nat.reduceAdd, xD, xE, xT, xU, xC, xN, zCF, ldSF, rArc, rInt, rPair] at hS
    generalize Act.tau a 8 = v8 at hS
    try simp only [Int.toNat_natCast] at hS
    refine then_n (wp_seq ?_)
    refine region_q hS
      (cF rfl (oM .t) r1 trivial
      (cF rfl (oF 0 101 .is) r1 r1
      (cF rfl (oL false 1 101 .adr) r1 r1
      (cF rfl (oP (in_c (roundA (l.take j) (iterA l k (nextA l u))) (Go.Gm.nth l j).src (by omega)) Tryd.func22 (Args.two .t .t)) r2 trivial
      (cF rfl (oM .t) r1 trivial
      (Chain.cons (Cert.cond rfl rfl (fun h => o_move .t (by rfl))) r2 trivial
      (Chain.cons (Cert.cond rfl rfl (fun h => o_fieldAddr (off := 1) 101 .is (by kernel_rfl) (by rfl))) r2 r1
      (Chain.cons (Cert.cond rfl rfl (fun h => o_load (ag := false) (sz := 1) 101 (.w h .adr) (by kernel_rfl) (by kernel_rfl) (by kernel_rfl) (by rfl))) r2 r1
      (Chain.cons (Cert.cond rfl rfl (fun h => o_callP (in_c (roundA (l.take j) (iterA l k (nextA l u))) (Go.Gm.nth l j).dst (by omega)) Tryd.func22 rfl (by kernel_rfl) (Args.two (.w h) (.w h)))) r3 trivial
      (Chain.cons (Cert.cond rfl rfl (fun h => o_not (.w h))) r2 trivial
      (cF rfl (o_and2 .t .t) r2 trivial
      Chain.nil)))))))))))
      hB ?_
    clear hS; intro a w F hS
    obtain ⟨F, hS⟩ := hS.nm [34, 33, 32, 31, 30, 29, 28, 27, 26, 25, 24, 23, 22, 21, 20, 19, 18, 15, 14, 13, 12, 8, 6, 5, 4, 0] [101, 0] rfl rfl
    try dsimp only [List.map, xD, xE, xT, xU, ldSF, rArc, rInt, rPair] at hS
    refine then_n ?_
    refine cond_b hS rfl (fun hc2 => ?_) (fun hc2 => ?_)
    ·skip
     have hBq : ((Go.Gm.nth l j).src ∈ (roundA (l.take j) (iterA l k (nextA l u))) ∧ (Go.Gm.nth l j).dst ∉ (roundA (l.take j) (iterA l k (nextA l u)))) = True := eq_true (by simpa using hc2)
     refine region_q hS
       (cF rfl (oM .t) r1 trivial
       (cF rfl (oF 1 101 .is) r1 r1
       (cF rfl (oL false 1 101 .adr) r1 r1
       (cF rfl (oP (refPut_c (roundA (l.take j) (iterA l k (nextA l u))) (Go.Gm.nth l j).dst (by omega)) Tryd.func66 (Args.two .t .t)) r2 trivial
       (cF rfl (oN .t) r1 trivial
       Chain.nil)))))
       hB ?_
     clear hS; intro a w F hS
     obtain ⟨F, hS⟩ := hS.nm [38, 37, 36, 35, 34, 33, 32, 31, 30, 29, 28, 27, 26, 25, 24, 23, 22, 21, 20, 19, 18, 15, 14, 13, 12, 8, 6, 5, 4, 0] [101, 0] rfl rfl
     try dsimp only [List.map, xD, xE, xT, xU, ldSF, rArc, rInt, rPair] at hS
     refine block_n (then_n ?_)
     refine region_q hS
       (cF rfl (o_add .t (.ci (by kernel_rfl))) r1 trivial
       (cF rfl (oM .t) r1 trivial
       Chain.nil))
       hB ?_
     clear hS; intro a w F hS
     obtain ⟨F, hS⟩ := hS.nm [39, 38, 37, 36, 35, 34, 33, 32, 31, 30, 29, 28, 27, 26, 25, 24, 23, 22, 21, 20, 19, 18, 15, 14, 13, 12, 8, 6, 5, 4, 0] [101, 0] rfl rfl
     try dsimp only [rArc, rInt, rPair] at hS
     refine then_n ?_
     replace hS := hS.ent (i := 20) (s' := .pv (.int .i64 ((j + 1 : Nat) : Int))) rfl (.int (wrap_succ (by omega)))
     replace hS := hS.ent (i := 5) (s' := .pv (.sl rInt (roundA (l.take (j + 1)) (iterA l k (nextA l u))))) rfl (Ent.eqSl (by rw [roundA_next hil]; unfold reachStep; simp only [hBq, if_true, if_false]))
     obtain ⟨F, hS⟩ := hS.nm [19, 18, 15, 14, 13, 12, 6, 4, 0, 5, 20] [0] rfl rfl
     exact ⟨(j + 1), F, ⟨by omega, trivial⟩, hS, by omega⟩
    have hBq : ((Go.Gm.nth l j).src ∈ (roundA (l.take j) (iterA l k (nextA l u))) ∧ (Go.Gm.nth l j).dst ∉ (roundA (l.take j) (iterA l k (nextA l u)))) = False := eq_false (by simpa using hc2)
    refine wp_skip (block_n (then_n ?_))
    refine region_q hS
      (cF rfl (o_add .t (.ci (by kernel_rfl))) r1 trivial
      (cF rfl (oM .t) r1 trivial
      Chain.nil))
      hB ?_
    clear hS; intro a w F hS
    obtain ⟨F, hS⟩ := hS.nm [39, 34, 33, 32, 31, 30, 29, 28, 27, 26, 25, 24, 23, 22, 21, 20, 19, 18, 15, 14, 13, 12, 8, 6, 5, 4, 0] [101, 0] rfl rfl
    try dsimp only [rArc, rInt, rPair] at hS
    refine then_n ?_
    replace hS := hS.ent (i := 20) (s' := .pv (.int .i64 ((j + 1 : Nat) : Int))) rfl (.int (wrap_succ (by omega)))
    replace hS := hS.ent (i := 5) (s' := .pv (.sl rInt (roundA (l.take (j + 1)) (iterA l k (nextA l u))))) rfl (Ent.eqSl (by rw [roundA_next hil]; unfold reachStep; simp only [hBq, if_true, if_false]))
    obtain ⟨F, hS⟩ := hS.nm [19, 18, 15, 14, 13, 12, 6, 4, 0, 5, 20] [0] rfl rfl
    exact ⟨(j + 1), F, ⟨by omega, trivial⟩, hS, by omega⟩
   have hil : j = l.length := by simp at hc1; omega
   refine wp_exit (then_x (then_x (block_x (block_n (then_n ?_)))))
   refine region_q hS
     (cF rfl (oM .t) r1 trivial
     (cF rfl (o_add .t (.ci (by kernel_rfl))) r1 trivial
     (cF rfl (oN .t) r1 trivial
     Chain.nil)))
     hB ?_
   clear hS; intro a w F hS
   obtain ⟨F, hS⟩ := hS.nm [21, 20, 19, 18, 17, 16, 15, 14, 13, 12, 6, 5, 4, 0] [0] rfl rfl
   try dsimp only [rArc, rInt, rPair] at hS
   refine then_n ?_
   replace hS := hS.ent (i := 5) (s' := .pv (.sl rInt (iterA l (k + 1) (nextA l u)))) rfl (Ent.eqSl (by rw [hil, List.take_length]; rfl))
   replace hS := hS.ent (i := 6) (s' := .pv (.int .i64 ((k + 1 : Nat) : Int))) rfl (.int (wrap_succ (by omega)))
   obtain ⟨F, hS⟩ := hS.nm [4, 0, 6, 5] [0] rfl rfl
   exact ⟨(k + 1), F, (by show k + 1 ≤ _; omega), hS, (by show _ - (k + 1) < _ - k; omega)⟩
  have hk9 : k = l.length + 1 := by simp at hc0; omega
  refine wp_exit (then_x (then_x (block_x (then_n (wp_seq ?_)))))
  refine region_q hS
    (cF rfl (oM .t) r1 trivial
    (cF rfl (oN .t) r1 trivial
    Chain.nil))
    hB ?_
  clear hS; intro a w F hS
  obtain ⟨F, hS⟩ := hS.nm [4] [0] rfl rfl
  try dsimp only [rArc, rInt, rPair] at hS
  refine then_n (wp_ret ?_)
  refine ret_P hfr hS rfl (.tmp rfl .nil) (.one (.sl (by rw [hk9]; rfl)))

end Go.Proofs.YtpahapjcdldodaaDoor
