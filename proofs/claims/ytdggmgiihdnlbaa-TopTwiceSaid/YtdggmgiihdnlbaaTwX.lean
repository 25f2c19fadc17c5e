/- Tw0, Tw1, Tw2, in one text. -/
import Derived.Test.YtdggmgiihdnlbaaDsX
import Derived.Test.YtdggmgiihdnlbaaPs4
namespace Go.Proofs.Ytdggmgiihdnlbaa
open Go Go.Gm
set_option linter.unusedVariables false
set_option linter.unusedSimpArgs false
set_option maxHeartbeats 4000000
set_option maxRecDepth 8000

def dblO (l : List OpD) : List OpD := l.flatMap fun o => if o.read = true then [o, o] else [o]
def dblT (t : TxD) : TxD := ⟨t.id, t.done, dblO t.ops⟩
def dblH (g : HistD) : HistD := ⟨g.txs.map dblT, g.orders⟩
theorem dblO_cons (o : OpD) (l : List OpD) : dblO (o :: l) = if o.read = true then o :: o :: dblO l else o :: dblO l := by
  unfold dblO
  rw [List.flatMap_cons]
  split <;> rfl
theorem dblO_step {l : List OpD} {j : Nat} (hj : j < l.length) : dblO (l.take (j + 1)) = dblO (l.take j) ++ if (Go.Gm.nth l j).read = true then [Go.Gm.nth l j, Go.Gm.nth l j] else [Go.Gm.nth l j] := by
  unfold dblO
  rw [take_nth hj, List.flatMap_append]
  simp
theorem dblO_len (l : List OpD) : (dblO l).length ≤ 2 * l.length := by
  induction l with
  | nil => simp [dblO]
  | cons o l ih =>
    rw [dblO_cons]
    split
    · simp only [List.length_cons]; omega
    · simp only [List.length_cons]; omega
theorem wcnt_cons (o : OpD) (l : List OpD) (k : Int) : wcnt (o :: l) k = (if o.read = false ∧ o.key = k then 1 else 0) + wcnt l k := by
  unfold wcnt
  by_cases h : o.read = false ∧ o.key = k
  · rw [if_pos h, List.filter_cons_of_pos (by simp [h.1, h.2]), List.length_cons]; omega
  · rw [if_neg h, List.filter_cons_of_neg (by intro h9; simp at h9; exact h h9)]; omega
theorem wcnt_app (l m : List OpD) (k : Int) : wcnt (l ++ m) k = wcnt l k + wcnt m k := by
  unfold wcnt
  rw [List.filter_append, List.length_append]
theorem dblO_wcnt (l : List OpD) (k : Int) : wcnt (dblO l) k = wcnt l k := by
  induction l with
  | nil => rfl
  | cons o l ih =>
    rw [dblO_cons]
    split
    · rename_i h
      rw [wcnt_cons, wcnt_cons, wcnt_cons, ih]
      simp [h]
    · rw [wcnt_cons, wcnt_cons, ih]
theorem dblO_writes (l : List OpD) : ((dblO l).filter fun o => !o.read) = l.filter fun o => !o.read := by
  induction l with
  | nil => rfl
  | cons o l ih =>
    rw [dblO_cons]
    split
    · rename_i h
      rw [List.filter_cons_of_neg (by simp [h]), List.filter_cons_of_neg (by simp [h]), List.filter_cons_of_neg (by simp [h]), ih]
    · rename_i h
      rw [List.filter_cons_of_pos (by simpa using h), List.filter_cons_of_pos (by simpa using h), ih]
theorem rightTL_cons {id : Int} {s r : List OpD} {o : OpD} : rightTL id s (o :: r) = if rightO o = false then 1 else if o.read = true ∧ o.tx = id ∧ (wcnt s o.key : Int) < o.nth then 6 else rightTL id (s ++ [o]) r := by rw [rightTL]
theorem rightTL_dbl {id : Int} : ∀ (r s s' : List OpD), (∀ k, wcnt s' k = wcnt s k) → rightTL id s' (dblO r) = rightTL id s r
  | [], _, _, _ => rfl
  | o :: r, s, s', h => by
    rw [dblO_cons]
    split
    · rename_i hr
      have ih := rightTL_dbl (id := id) r (s ++ [o]) (s' ++ [o] ++ [o]) fun k => by rw [wcnt_app, wcnt_app, wcnt_app, h k]; simp [wcnt, hr]
      have hk : ∀ k, wcnt (s' ++ [o]) k = wcnt s' k := fun k => by rw [wcnt_app]; simp [wcnt, hr]
      rw [rightTL_cons, rightTL_cons, rightTL_cons, hk, h o.key, ih]
      split
      · rfl
      · split
        · rfl
        · rfl
    · have ih := rightTL_dbl (id := id) r (s ++ [o]) (s' ++ [o]) fun k => by rw [wcnt_app, wcnt_app, h k]
      rw [rightTL_cons, rightTL_cons, h o.key, ih]
theorem dblT_right {t : TxD} (h : rightT t = 0) (hl : t.ops.length ≤ 2000) : rightT (dblT t) = 0 := by
  unfold rightT at h ⊢
  split at h
  · cases h
  · rename_i h1
    split at h
    · cases h
    · have := dblO_len t.ops
      show (if ¬ (1 ≤ t.id ∧ t.id ≤ 1048575) then 1 else if 4095 < (dblO t.ops).length then 9 else rightTL t.id [] (dblO t.ops)) = 0
      rw [if_neg h1, if_neg (by omega)]
      rw [rightTL_dbl t.ops [] [] (fun _ => rfl)]
      exact h
theorem needStep_twice (id : Int) (out : List VerD) (o : OpD) : needStep id (needStep id out o) o = needStep id out o := by
  by_cases h : needO id o = true ∧ ofO o ∉ out
  · have e : needStep id out o = out ++ [ofO o] := if_pos h
    rw [e]
    exact if_neg fun h9 => h9.2 (by simp)
  · have e : needStep id out o = out := if_neg h
    rw [e, e]
theorem needs_dbl (id : Int) : ∀ (l : List OpD) (out : List VerD), (dblO l).foldl (needStep id) out = l.foldl (needStep id) out
  | [], _ => rfl
  | o :: l, out => by
    rw [dblO_cons]
    split
    · rw [List.foldl_cons, List.foldl_cons, List.foldl_cons, needStep_twice]; exact needs_dbl id l _
    · rw [List.foldl_cons, List.foldl_cons]; exact needs_dbl id l _
theorem needsT_dbl (t : TxD) : needsT (dblT t) = needsT t := needs_dbl t.id t.ops []
theorem findT_dbl (l : List TxD) (id : Int) : findT (l.map dblT) id = (findT l id).map dblT := by
  unfold findT
  rw [List.find?_map]
  rfl
theorem hasH_dbl (g : HistD) (v : VerD) : hasH (dblH g) v = hasH g v := by
  unfold hasH
  show (if v.tx = 0 ∧ v.nth = 0 then _ else (findT (g.txs.map dblT) v.tx).isSome && (decide (1 ≤ v.nth) && decide (v.nth ≤ (wcnt ((findT (g.txs.map dblT) v.tx).getD zeroT).ops v.key : Int)))) = _
  rw [findT_dbl]
  cases findT g.txs v.tx with
  | none => rfl
  | some t =>
    simp only [Option.map_some, Option.isSome_some, Option.getD_some]
    have hw : wcnt (dblT t).ops v.key = wcnt t.ops v.key := dblO_wcnt t.ops v.key
    simp only [hw]
theorem needsH_dbl (g : HistD) (t : TxD) : needsH (dblH g) (dblT t) = needsH g t := by
  unfold needsH
  rw [needsT_dbl]
  congr 1
  funext v
  exact hasH_dbl g v
theorem keysT_dbl (t : TxD) : keysT (dblT t) = keysT t := by
  unfold keysT
  rw [show (dblT t).ops = dblO t.ops from rfl, dblO_writes]
theorem done_dbl (l : List TxD) : ((l.map dblT).filter fun t => t.done) = (l.filter fun t => t.done).map dblT := by
  rw [List.filter_map]
  rfl
theorem keysH_dbl (l : List TxD) : keysH (l.map dblT) = keysH l := by
  unfold keysH
  rw [done_dbl, List.flatMap_map]
  congr 2
  funext t
  exact keysT_dbl t
theorem writersH_dbl (l : List TxD) (k : Int) : writersH (l.map dblT) k = writersH l k := by
  unfold writersH
  rw [List.filter_map, List.map_map]
  have e : ((fun t : TxD => t.done && decide (0 < wcnt t.ops k)) ∘ dblT) = fun t => t.done && decide (0 < wcnt t.ops k) := by
    funext t
    show (t.done && decide (0 < wcnt (dblO t.ops) k)) = _
    rw [dblO_wcnt]
  rw [e]
  rfl
theorem nth_dbl {l : List TxD} {i : Nat} (hi : i < l.length) : Go.Gm.nth (l.map dblT) i = dblT (Go.Gm.nth l i) := nth_map hi
theorem right_dbl {g : HistD} (hr : RightH g) (hs : SmallT g.txs) : RightH (dblH g) := by
  obtain ⟨h1, h2, h3, h4⟩ := hr
  refine ⟨by show (g.txs.map dblT).length ≤ 4096; rw [List.length_map]; exact h1, fun i hi => ?_, by show g.orders.length = (keysH (g.txs.map dblT)).length; rw [keysH_dbl]; exact h3, fun i hi => ?_⟩
  · have hi' : i < g.txs.length := by
      have : i < (g.txs.map dblT).length := hi
      rwa [List.length_map] at this
    obtain ⟨a1, a2, a3⟩ := h2 i hi'
    refine ⟨fun h0 => ?_, ?_, ?_⟩
    · show (Go.Gm.nth (g.txs.map dblT) (i - 1)).id < (Go.Gm.nth (g.txs.map dblT) i).id
      rw [nth_dbl (by omega), nth_dbl hi']
      exact a1 h0
    · show rightT (Go.Gm.nth (g.txs.map dblT) i) = 0
      rw [nth_dbl hi']
      exact dblT_right a2 (by have := hs.at hi'; omega)
    · show needsH (dblH g) (Go.Gm.nth (g.txs.map dblT) i) = true
      rw [nth_dbl hi', needsH_dbl]
      exact a3
  · obtain ⟨b1, b2⟩ := h4 i hi
    refine ⟨?_, ?_⟩
    · show (Go.Gm.nth g.orders i).key = Go.Gm.nth (keysH (g.txs.map dblT)) i
      rw [keysH_dbl]; exact b1
    · show (Go.Gm.nth g.orders i).txs.Perm (writersH (g.txs.map dblT) (Go.Gm.nth g.orders i).key)
      rw [writersH_dbl]; exact b2
theorem donesA_dbl (l : List TxD) : donesA (l.map dblT) = donesA l := by
  unfold donesA
  rw [List.filter_map, List.map_map]
  rfl
theorem lastK_dbl (l : List TxD) : lastK (l.map dblT) = lastK l := by
  unfold lastK
  rw [List.flatMap_map]
  congr 1
  funext t
  show (if t.done = true then lastK1 t.id (dblO t.ops) else []) = _
  unfold lastK1
  rw [dblO_writes]
theorem rdO_dbl (g : HistD) (t : TxD) (o : OpD) : rdO (dblH g) (dblT t) o = rdO g t o := by
  unfold rdO rdNo rdA rdB doneI lastI nxI
  show (if (decide (o.tx = t.id) || (!decide (o.tx = 0) && (decide (asgF (donesA (g.txs.map dblT)) o.tx = 0) || !decide (((lastK (g.txs.map dblT)).count ⟨o.tx, o.key⟩ : Int) = o.nth)))) = true then [] else _) = _
  rw [donesA_dbl, lastK_dbl]
  rfl
theorem rdT_count (p : Int → Bool) (g : HistD) (t : TxD) (e : EdgeD) (l : List OpD) : (rdT p (dblH g) (dblT t) (dblO l)).count e = 2 * (rdT p g t l).count e := by
  induction l with
  | nil => rfl
  | cons o l ih =>
    have hd : (dblT t).done = t.done := rfl
    rw [dblO_cons]
    unfold rdT at ih ⊢
    split
    · rw [List.flatMap_cons, List.flatMap_cons, List.flatMap_cons, List.count_append, List.count_append, List.count_append, ih, hd]
      split
      · rw [rdO_dbl]; omega
      · simp
    · rename_i h
      rw [List.flatMap_cons, List.flatMap_cons, List.count_append, List.count_append, ih, hd]
      rw [if_neg (by simp [h]), if_neg (by simp [h])]
      simp
theorem rdH_count (p : Int → Bool) (g : HistD) (e : EdgeD) : ∀ l : List TxD, (rdH p (dblH g) (l.map dblT)).count e = 2 * (rdH p g l).count e
  | [] => rfl
  | t :: l => by
    have ih := rdH_count p g e l
    have h1 := rdT_count p g t e t.ops
    unfold rdH at ih ⊢
    rw [List.map_cons, List.flatMap_cons, List.flatMap_cons, List.count_append, List.count_append, ih, show (dblT t).ops = dblO t.ops from rfl, h1]
    omega
theorem rdO_kind {g : HistD} {t : TxD} {o : OpD} {e : EdgeD} (h : e ∈ rdO g t o) : e.kind ≠ 1 := by
  unfold rdO rdA rdB at h
  split at h
  · cases h
  · rcases List.mem_append.1 h with h | h
    · split at h
      · cases h
      · simp at h; rw [h]; show (2 : Int) ≠ 1; decide
    · split at h
      · simp at h; rw [h]; show (3 : Int) ≠ 1; decide
      · cases h
theorem rdC_kind {p : Int → Bool} {g : HistD} {e : EdgeD} (h : e ∈ rdC p g) : e.kind ≠ 1 := by
  unfold rdC at h
  split at h
  · unfold rdH at h
    obtain ⟨t, _, h⟩ := List.mem_flatMap.1 h
    unfold rdT at h
    obtain ⟨o, _, h⟩ := List.mem_flatMap.1 h
    split at h
    · exact rdO_kind h
    · cases h
  · cases h
theorem wwC_kind {p : Int → Bool} {g : HistD} {z : EdgeD × Int} (h : z ∈ wwC p g) : z.1.kind = 1 := by
  unfold wwC at h
  split at h
  · unfold wwA at h
    obtain ⟨o, _, h⟩ := List.mem_flatMap.1 h
    split at h
    · unfold wwO at h
      obtain ⟨i, _, rfl⟩ := List.mem_map.1 h
      rfl
    · cases h
  · cases h
theorem asgF_not {κ : Type} [DecidableEq κ] {k : κ} : ∀ {A : List (κ × Int)}, (∀ z ∈ A, z.1 ≠ k) → asgF A k = 0 := by
  have key : ∀ (A : List (κ × Int)) (x : Int), (∀ z ∈ A, z.1 ≠ k) → A.foldl (fun x z => if k = z.1 then z.2 else x) x = x := by
    intro A
    induction A with
    | nil => intro x _; rfl
    | cons z A ih =>
      intro x h
      rw [List.foldl_cons, if_neg (fun e => h z (by simp) e.symm)]
      exact ih x fun y hy => h y (List.mem_cons_of_mem _ hy)
  intro A h
  exact key A 0 h
theorem wwC_dbl {p : Int → Bool} {g : HistD} (hr : RightH g) (hs : SmallT g.txs) : wwC p (dblH g) = wwC p g := by
  unfold wwC
  rw [if_pos hr, if_pos (right_dbl hr hs)]
  rfl
theorem rdC_dbl {p : Int → Bool} {g : HistD} (hr : RightH g) (hs : SmallT g.txs) (e : EdgeD) : (rdC p (dblH g)).count e = 2 * (rdC p g).count e := by
  unfold rdC
  rw [if_pos hr, if_pos (right_dbl hr hs)]
  exact rdH_count p g e g.txs

end Go.Proofs.Ytdggmgiihdnlbaa
namespace Go.Proofs.Ytdggmgiihdnlbaa
open Go Go.Gm
set_option linter.unusedVariables false
set_option linter.unusedSimpArgs false
set_option maxHeartbeats 4000000
set_option maxRecDepth 8000

theorem hvG_unique {α : Type} {lt : α → α → Bool} (h : STO lt) : ∀ {l m : List α}, IncG lt l → IncG lt m → (∀ x, x ∈ l ↔ x ∈ m) → l = m
  | [], [], _, _, _ => rfl
  | [], y :: m, _, _, he => by have := (he y).2 (by simp); cases this
  | x :: l, [], _, _, he => by have := (he x).1 (by simp); cases this
  | x :: l, y :: m, hl, hm, he => by
    obtain ⟨h1, h2⟩ := List.pairwise_cons.1 hl
    obtain ⟨h3, h4⟩ := List.pairwise_cons.1 hm
    have hxy : x = y := by
      rcases List.mem_cons.1 ((he x).1 (by simp)) with e | hx
      · exact e
      · rcases List.mem_cons.1 ((he y).2 (by simp)) with e | hy
        · exact e.symm
        · have a1 := h1 y hy
          have a2 := h3 x hx
          have a3 := h.tr x y x a1 a2
          rw [h.irr x] at a3; cases a3
    subst hxy
    congr 1
    refine hvG_unique h h2 h4 fun z => ⟨fun hz => ?_, fun hz => ?_⟩
    · rcases List.mem_cons.1 ((he z).1 (List.mem_cons_of_mem _ hz)) with e | h9
      · subst e
        have := h1 z hz
        rw [h.irr z] at this; cases this
      · exact h9
    · rcases List.mem_cons.1 ((he z).2 (List.mem_cons_of_mem _ hz)) with e | h9
      · subst e
        have := h3 z hz
        rw [h.irr z] at this; cases this
      · exact h9
theorem keysG_congr {l m : List EdgeD} (he : ∀ x, x ∈ l ↔ x ∈ m) : keysG ltE l = keysG ltE m :=
  hvG_unique ltE_sto (keysG_inc ltE_sto l).1 (keysG_inc ltE_sto m).1 fun x => by rw [(keysG_inc ltE_sto l).2, (keysG_inc ltE_sto m).2, he x]
/-- Edges, each with how often there is a reason for it. -/
structure HvD where
  edge : EdgeD
  cnt : Int
  deriving DecidableEq, Inhabited
def rHv (x : HvD) : List PV := [.int .i64 x.edge.src, .int .i64 x.edge.dst, .int .i64 x.edge.kind, .int .i64 x.edge.key, .int .i64 x.cnt]
def cntA (A : List (EdgeD × Int)) (R : List EdgeD) (e : EdgeD) : Int := asgF A e + (R.count e : Int)
def allE (A : List (EdgeD × Int)) (R : List EdgeD) : List EdgeD := A.map Prod.fst ++ R
def edgesL (A : List (EdgeD × Int)) (R : List EdgeD) : List HvD := (keysG ltE (allE A R)).map fun e => ⟨e, cntA A R e⟩
theorem keysG_edges {es : List (GE EdgeD Int)} {A : List (EdgeD × Int)} {R ks : List EdgeD} (hE : EdgV es A R) (hk : ks.Perm (es.map (·.key))) : keysG ltE ks = keysG ltE (allE A R) := keysG_congr fun x => by
  unfold allE
  rw [hk.mem_iff, List.mem_append, ← hE.key x, gGet_mem]
theorem edgesL_nth {A : List (EdgeD × Int)} {R : List EdgeD} {i : Nat} (hi : i < (keysG ltE (allE A R)).length) : Go.Gm.nth (edgesL A R) i = ⟨Go.Gm.nth (keysG ltE (allE A R)) i, cntA A R (Go.Gm.nth (keysG ltE (allE A R)) i)⟩ := nth_map hi
theorem edgesL_len {A : List (EdgeD × Int)} {R : List EdgeD} : (edgesL A R).length = (keysG ltE (allE A R)).length := List.length_map _
/-- Reads twice. -/
theorem twice_keys {p : Int → Bool} {g : HistD} (hr : RightH g) (hs : SmallT g.txs) : keysG ltE (allE (wwC p (dblH g)) (rdC p (dblH g))) = keysG ltE (allE (wwC p g) (rdC p g)) := keysG_congr fun x => by
  have h1 : (x ∈ rdC p (dblH g)) ↔ x ∈ rdC p g := by
    rw [← List.count_pos_iff, ← List.count_pos_iff, rdC_dbl hr hs]
    omega
  unfold allE
  rw [List.mem_append, List.mem_append, wwC_dbl hr hs, h1]
theorem twice_cnt {p : Int → Bool} {g : HistD} (hr : RightH g) (hs : SmallT g.txs) (e : EdgeD) : cntA (wwC p (dblH g)) (rdC p (dblH g)) e = (if e.kind = 1 then 1 else 2) * cntA (wwC p g) (rdC p g) e := by
  unfold cntA
  rw [wwC_dbl hr hs, rdC_dbl hr hs]
  by_cases hk : e.kind = 1
  · have h0 : (rdC p g).count e = 0 := List.count_eq_zero.2 fun h => rdC_kind h hk
    rw [if_pos hk, h0]; simp
  · have h0 : asgF (wwC p g) e = 0 := asgF_not fun z hz h => hk (by rw [← h]; exact wwC_kind hz)
    rw [if_neg hk, h0]; omega

end Go.Proofs.Ytdggmgiihdnlbaa
namespace Go.Proofs.Ytdggmgiihdnlbaa
open Go Go.Gm
set_option linter.unusedVariables false
set_option linter.unusedSimpArgs false
set_option maxHeartbeats 4000000
set_option maxRecDepth 8000

theorem doubled_c (g : HistD) (hsm : Small g) : FnP Try.prog 9 [.agg (rHist g)] (.agg (rHist (dblH g))) := by
  refine FnP.mk Try.func9 rfl Try.ntmps9 rfl ?_
  intro B a w F hB hfr hS
  have hs := hsm.1
  have hsl := hs.1
  refine wp_seq ?_
  refine region_q hS
    (cF rfl (oX 101 (.conv .t .agg)) r1 trivial
    (cF rfl (oH [.slice none 0 0, .slice none 0 0] 102) trivial trivial
    Chain.nil))
    hB ?_
  clear hS; intro a w F hS
  replace hS := hS.sub
  obtain ⟨F, hS⟩ := hS.nm [2, 1] [102, 101, 0] rfl rfl
  try dsimp only [RS.sub, SF.sub, CF.sub, csub, Anc.sub, List.map, zCF, rHist, rTx, rOrd, rVer, rInt, rOp] at hS
  generalize Act.tau a 1 = v1 at hS
  generalize Act.tau a 2 = v2 at hS
  refine then_n (wp_seq ?_)
  refine region_q hS
    (cF rfl (oF 1 101 .is) r1 r1
    (cF rfl (oL false 1 101 .adr) r1 r1
    (cF rfl (oB [(1, .tmp 10)] [.slice none 0 0, .slice none 0 0] [(0, 1), (1, 1)] (.one rfl .t one_sl (by kernel_rfl) .nil)) r1 trivial
    (cF rfl (oH [.slice none 0 0, .slice none 0 0] 103) trivial trivial
    (cF rfl (oA 2 103 .same .t) r2 r1
    Chain.nil)))))
    hB ?_
  clear hS; intro a w F hS
  replace hS := hS.sub
  obtain ⟨F, hS⟩ := hS.nm [3, 2, 1] [103, 102, 101, 0] rfl rfl
  try dsimp only [RS.sub, SF.sub, CF.sub, csub, Anc.sub, List.map, stCells, xL, xM, Nat.reduceAdd, xD, xE, xT, xU, xC, xN, zCF, ldSF, rHist, rTx, rOrd, rVer, rInt, rOp] at hS
  generalize Act.tau a 3 = v3 at hS
  replace hS := hS.fresh 50 rfl
  replace hS := hS.turn 50 rfl (nilRow (T := 41) (sz := 3) (R := rTx))
  obtain ⟨F, hS⟩ := hS.nm [3, 2, 1] [103, 102, 101, 50, 0] rfl rfl
  refine then_n (wp_seq (wp_seq ?_))
  refine region_q hS
    (cF rfl (oF 0 101 .is) r1 r1
    (cF rfl (oL false 1 101 .adr) r1 r1
    (cF rfl (o_len_sl Try.underlying22 .t) r1 trivial
    (cF rfl (oM (.ci (by kernel_rfl))) trivial trivial
    Chain.nil))))
    hB ?_
  clear hS; intro a w F hS
  obtain ⟨F, hS⟩ := hS.nm [15, 14, 13, 3, 2] [103, 102, 101, 50, 0] rfl rfl
  try dsimp only [List.map, xD, xE, xT, xU, ldSF, rHist, rTx, rOrd, rVer, rInt, rOp] at hS
  refine then_n (wp_block ?_)
  refine loop_keep (σ := (Nat) × (Value) × (List TxD)) [2, 3, 13, 14] [0, 101, 102] (fun s => [(15, .pv (.int .i64 (s.1 : Int)))]) (fun s => [(103, .pt (.val v3) 25 [.pv (.is s.2.1), .pv (.sl rOrd g.orders)]), (50, .ob (.val s.2.1) (rowH 41 3 rTx s.2.2))]) (fun s => s.1 ≤ g.txs.length ∧ (s.2.2 = (g.txs.take s.1).map dblT)) (fun s => g.txs.length - s.1) ((0), ((.slice none 0 0)), ([])) hS ⟨rfl, rfl, rfl, rfl, rfl, trivial⟩ ⟨rfl, rfl, rfl, rfl, rfl, trivial⟩ ⟨Nat.zero_le _, rfl⟩ ?_
  clear hS; intro s a w F hC hS
  obtain ⟨i, u, out⟩ := s
  try dsimp only at hC
  obtain ⟨F, hS⟩ := hS.nm [15, 14, 13, 3, 2] [103, 102, 101, 50, 0] rfl rfl
  try dsimp only at hS
  obtain ⟨hi, hq⟩ := hC
  have hxl := fun hil : i < g.txs.length => hs.at hil
  have hol : out.length ≤ i := by rw [hq, List.length_map, List.length_take]; omega
  refine wp_seq ?_
  refine region_q hS
    (cF rfl (o_lss .t .t) r2 trivial
    Chain.nil)
    hB ?_
  clear hS; intro a w F hS
  obtain ⟨F, hS⟩ := hS.nm [16, 15, 14, 13, 3, 2] [103, 102, 101, 50, 0] rfl rfl
  try dsimp only [rHist, rTx, rOrd, rVer, rInt, rOp] at hS
  refine then_n (wp_seq ?_)
  refine cond_b hS rfl (fun hc0 => ?_) (fun hc0 => ?_)
  ·skip
   have hil : i < g.txs.length := by simp at hc0; omega
   have hio := hil
   have hqo := hq
   have htl := hxl hil
   refine wp_skip (then_n (wp_seq (wp_block (wp_seq ?_))))
   refine region_q hS
     (cF rfl (o_indexAddr_sl (sz := 3) (.mk Try.underlying22 (by kernel_rfl)) (by intro x; rfl) .t .t (by omega) (by omega)) r2 trivial
     (cF rfl (oR true 3 .t) r1 trivial
     (cF rfl (oH [.int .i64 0, .bool false, .slice none 0 0] 104) trivial trivial
     (cF rfl (oA 3 104 .same .t) r2 r1
     Chain.nil))))
     hB ?_
   clear hS; intro a w F hS
   replace hS := hS.sub
   obtain ⟨F, hS⟩ := hS.nm [18, 17, 16, 15, 14, 13, 5, 3, 2] [104, 103, 102, 101, 50, 0] rfl rfl
   try dsimp only [RS.sub, SF.sub, CF.sub, csub, Anc.sub, List.map, stCells, xL, xM, Nat.reduceAdd, xD, xE, xT, xU, xC, xN, zCF, ldSF, rHist, rTx, rOrd, rVer, rInt, rOp] at hS
   generalize Act.tau a 5 = v5 at hS
   try simp only [Int.toNat_natCast] at hS
   refine then_n (wp_seq ?_)
   refine region_q hS
     (cF rfl (oF 0 104 .is) r1 r1
     (cF rfl (oL false 1 104 .adr) r1 r1
     (cF rfl (oF 1 104 .is) r1 r1
     (cF rfl (oL false 1 104 .adr) r1 r1
     (cF rfl (oB [(0, .tmp 20), (1, .tmp 22)] [.int .i64 0, .bool false, .slice none 0 0] [(0, 1), (1, 1), (2, 1)] (.one rfl .t one_int (by kernel_rfl) (.one rfl .t one_bool (by kernel_rfl) .nil))) r2 trivial
     (cF rfl (oH [.int .i64 0, .bool false, .slice none 0 0] 105) trivial trivial
     (cF rfl (oA 3 105 .same .t) r2 r1
     Chain.nil)))))))
     hB ?_
   clear hS; intro a w F hS
   replace hS := hS.sub
   obtain ⟨F, hS⟩ := hS.nm [23, 22, 21, 20, 19, 18, 17, 16, 15, 14, 13, 6, 5, 3, 2] [105, 104, 103, 102, 101, 50, 0] rfl rfl
   try dsimp only [RS.sub, SF.sub, CF.sub, csub, Anc.sub, List.map, stCells, xL, xM, Nat.reduceAdd, xD, xE, xT, xU, xC, xN, zCF, ldSF, rHist, rTx, rOrd, rVer, rInt, rOp] at hS
   generalize Act.tau a 6 = v6 at hS
   replace hS := hS.fresh 51 rfl
   replace hS := hS.turn 51 rfl (nilRow (T := 56) (sz := 4) (R := rOp))
   obtain ⟨F, hS⟩ := hS.nm [23, 22, 21, 20, 19, 18, 17, 16, 15, 14, 13, 6, 5, 3, 2] [105, 104, 103, 102, 101, 51, 50, 0] rfl rfl
   refine then_n (wp_seq (wp_seq ?_))
   refine region_q hS
     (cF rfl (oF 2 104 .is) r1 r1
     (cF rfl (oL false 1 104 .adr) r1 r1
     (cF rfl (o_len_sl Try.underlying39 .t) r1 trivial
     (cF rfl (oM (.ci (by kernel_rfl))) trivial trivial
     Chain.nil))))
     hB ?_
   clear hS; intro a w F hS
   obtain ⟨F, hS⟩ := hS.nm [27, 26, 25, 24, 23, 22, 21, 20, 19, 18, 17, 16, 15, 14, 13, 6, 5, 3, 2] [105, 104, 103, 102, 101, 51, 50, 0] rfl rfl
   try dsimp only [List.map, xD, xE, xT, xU, ldSF, rHist, rTx, rOrd, rVer, rInt, rOp] at hS
   refine then_n (wp_block ?_)
   refine loop_keep (σ := (Nat) × (Value) × (List OpD)) [2, 3, 5, 6, 13, 14, 15, 16, 17, 18, 19, 20, 21, 22, 23, 24, 25, 26] [0, 50, 101, 102, 103, 104] (fun s => [(27, .pv (.int .i64 (s.1 : Int)))]) (fun s => [(105, .pt (.val v6) 41 [.pv (.int .i64 (Go.Gm.nth g.txs i).id), .pv (.bool (Go.Gm.nth g.txs i).done), .pv (.is s.2.1)]), (51, .ob (.val s.2.1) (rowH 56 4 rOp s.2.2))]) (fun s => s.1 ≤ (Go.Gm.nth g.txs i).ops.length ∧ (s.2.2 = dblO ((Go.Gm.nth g.txs i).ops.take s.1))) (fun s => (Go.Gm.nth g.txs i).ops.length - s.1) ((0), ((.slice none 0 0)), ([])) hS ⟨rfl, rfl, rfl, rfl, rfl, rfl, rfl, rfl, rfl, rfl, rfl, rfl, rfl, rfl, rfl, rfl, rfl, rfl, rfl, trivial⟩ ⟨rfl, rfl, rfl, rfl, rfl, rfl, rfl, rfl, trivial⟩ ⟨Nat.zero_le _, rfl⟩ ?_
   clear hS; intro s a w F hC hS
   obtain ⟨j, z, ops⟩ := s
   try dsimp only at hC
   obtain ⟨F, hS⟩ := hS.nm [27, 26, 25, 24, 23, 22, 21, 20, 19, 18, 17, 16, 15, 14, 13, 6, 5, 3, 2] [105, 104, 103, 102, 101, 51, 50, 0] rfl rfl
   try dsimp only at hS
   obtain ⟨hi, hq⟩ := hC
   have hdl := dblO_len ((Go.Gm.nth g.txs i).ops.take j)
   rw [List.length_take] at hdl
   have hpl : ops.length ≤ 2 * j := by rw [hq]; omega
   refine wp_seq ?_
   refine region_q hS
     (cF rfl (o_lss .t .t) r2 trivial
     Chain.nil)
     hB ?_
   clear hS; intro a w F hS
   obtain ⟨F, hS⟩ := hS.nm [28, 27, 26, 25, 24, 23, 22, 21, 20, 19, 18, 17, 16, 15, 14, 13, 6, 5, 3, 2] [105, 104, 103, 102, 101, 51, 50, 0] rfl rfl
   try dsimp only [rHist, rTx, rOrd, rVer, rInt, rOp] at hS
   refine then_n (wp_seq ?_)
   refine cond_b hS rfl (fun hc1 => ?_) (fun hc1 => ?_)
   ·skip
    have hil : j < (Go.Gm.nth g.txs i).ops.length := by simp at hc1; omega
    refine wp_skip (then_n (wp_seq (wp_block (wp_seq ?_))))
    refine region_q hS
      (cF rfl (o_indexAddr_sl (sz := 4) (.mk Try.underlying39 (by kernel_rfl)) (by intro x; rfl) .t .t (by omega) (by omega)) r2 trivial
      (cF rfl (oR true 4 .t) r1 trivial
      (cF rfl (oH [.bool false, .int .i64 0, .int .i64 0, .int .i64 0] 106) trivial trivial
      (cF rfl (oA 4 106 .same .t) r2 r1
      Chain.nil))))
      hB ?_
    clear hS; intro a w F hS
    replace hS := hS.sub
    obtain ⟨F, hS⟩ := hS.nm [30, 29, 28, 27, 26, 25, 24, 23, 22, 21, 20, 19, 18, 17, 16, 15, 14, 13, 8, 6, 5, 3, 2] [106, 105, 104, 103, 102, 101, 51, 50, 0] rfl rfl
    try dsimp only [RS.sub, SF.sub, CF.sub, csub, Anc.sub, List.map, stCells, xL, xM, Nat.reduceAdd, xD, xE, xT, xU, xC, xN, zCF, ldSF, rHist, rTx, rOrd, rVer, rInt, rOp] at hS
    generalize Act.tau a 8 = v8 at hS
    try simp only [Int.toNat_natCast] at hS
    refine then_n (wp_seq ?_)
    refine region_q hS
      (cF rfl (oF 2 105 .is) r1 r1
      (cF rfl (oL false 1 105 .adr) r1 r1
      (cF rfl (oL true 4 106 .is) r1 r1
      (cF rfl (o_buildSliceE (sz := 4) (zs := [.bool false, .int .i64 0, .int .i64 0, .int .i64 0]) (r := [(0, .tmp 33)]) (l := [_, _, _, _]) Try.underlying39 (by kernel_rfl) (by kernel_rfl) (by kernel_rfl) (by kernel_rfl) rfl rfl (.agg rfl .t (by kernel_rfl) (by kernel_rfl) .nil) rfl) r1 trivial
      (cF rfl (o_append (sz := 4) (bs := 32) 51 (.mk' Try.underlying39 (by kernel_rfl) (by kernel_rfl)) (by intro x; rfl) .is (.arr (l' := [(Go.Gm.nth (Go.Gm.nth g.txs i).ops j)]) .t) (by simp only [List.length_append, List.length_cons, List.length_nil]; omega) (by decide)) ⟨rfl, rfl, trivial⟩ ⟨rfl, trivial⟩
      (cF rfl (oF 2 105 .is) r1 r1
      (cF rfl (o_storeS 105 .adr (by kernel_rfl) (by kernel_rfl)) r2 r1
      Chain.nil)))))))
      hB ?_
    clear hS; intro a w F hS
    replace hS := hS.sub
    obtain ⟨F, hS⟩ := hS.nm [36, 35, 34, 33, 32, 31, 30, 29, 28, 27, 26, 25, 24, 23, 22, 21, 20, 19, 18, 17, 16, 15, 14, 13, 8, 6, 5, 3, 2] [106, 105, 104, 103, 102, 101, 51, 50, 0] rfl rfl
    try dsimp only [RS.sub, SF.sub, CF.sub, csub, Anc.sub, List.map, stCells, xL, xM, Nat.reduceAdd, xD, xE, xT, xU, xC, xN, zCF, ldSF, rHist, rTx, rOrd, rVer, rInt, rOp] at hS
    generalize Act.tau a 35 = v35 at hS
    refine then_n (wp_seq ?_)
    refine region_q hS
      (cF rfl (oF 0 106 .is) r1 r1
      (cF rfl (oL false 1 106 .adr) r1 r1
      Chain.nil))
      hB ?_
    clear hS; intro a w F hS
    obtain ⟨F, hS⟩ := hS.nm [38, 37, 36, 35, 34, 33, 32, 31, 30, 29, 28, 27, 26, 25, 24, 23, 22, 21, 20, 19, 18, 17, 16, 15, 14, 13, 8, 6, 5, 3, 2] [106, 105, 104, 103, 102, 101, 51, 50, 0] rfl rfl
    try dsimp only [List.map, xD, xE, xT, xU, ldSF, rHist, rTx, rOrd, rVer, rInt, rOp] at hS
    refine then_n ?_
    refine cond_b hS rfl (fun hc2 => ?_) (fun hc2 => ?_)
    ·skip
     have hrd : (Go.Gm.nth (Go.Gm.nth g.txs i).ops j).read = true := by simpa using hc2
     refine region_q hS
       (cF rfl (oF 2 105 .is) r1 r1
       (cF rfl (oL false 1 105 .adr) r1 r1
       (cF rfl (oL true 4 106 .is) r1 r1
       (cF rfl (o_buildSliceE (sz := 4) (zs := [.bool false, .int .i64 0, .int .i64 0, .int .i64 0]) (r := [(0, .tmp 41)]) (l := [_, _, _, _]) Try.underlying39 (by kernel_rfl) (by kernel_rfl) (by kernel_rfl) (by kernel_rfl) rfl rfl (.agg rfl .t (by kernel_rfl) (by kernel_rfl) .nil) rfl) r1 trivial
       (cF rfl (o_append (sz := 4) (bs := 32) 51 (.mk' Try.underlying39 (by kernel_rfl) (by kernel_rfl)) (by intro x; rfl) .is (.arr (l' := [(Go.Gm.nth (Go.Gm.nth g.txs i).ops j)]) .t) (by simp only [List.length_append, List.length_cons, List.length_nil]; omega) (by decide)) ⟨rfl, rfl, trivial⟩ ⟨rfl, trivial⟩
       (cF rfl (oF 2 105 .is) r1 r1
       (cF rfl (o_storeS 105 .adr (by kernel_rfl) (by kernel_rfl)) r2 r1
       Chain.nil)))))))
       hB ?_
     clear hS; intro a w F hS
     replace hS := hS.sub
     obtain ⟨F, hS⟩ := hS.nm [44, 43, 42, 41, 40, 39, 38, 37, 36, 35, 34, 33, 32, 31, 30, 29, 28, 27, 26, 25, 24, 23, 22, 21, 20, 19, 18, 17, 16, 15, 14, 13, 8, 6, 5, 3, 2] [106, 105, 104, 103, 102, 101, 51, 50, 0] rfl rfl
     try dsimp only [RS.sub, SF.sub, CF.sub, csub, Anc.sub, List.map, stCells, xL, xM, Nat.reduceAdd, xD, xE, xT, xU, xC, xN, zCF, ldSF, rHist, rTx, rOrd, rVer, rInt, rOp] at hS
     generalize Act.tau a 43 = v43 at hS
     refine block_n (then_n ?_)
     refine region_q hS
       (cF rfl (o_add .t (.ci (by kernel_rfl))) r1 trivial
       (cF rfl (oM .t) r1 trivial
       Chain.nil))
       hB ?_
     clear hS; intro a w F hS
     obtain ⟨F, hS⟩ := hS.nm [45, 44, 43, 42, 41, 40, 39, 38, 37, 36, 35, 34, 33, 32, 31, 30, 29, 28, 27, 26, 25, 24, 23, 22, 21, 20, 19, 18, 17, 16, 15, 14, 13, 8, 6, 5, 3, 2] [106, 105, 104, 103, 102, 101, 51, 50, 0] rfl rfl
     try dsimp only [rHist, rTx, rOrd, rVer, rInt, rOp] at hS
     refine then_n ?_
     replace hS := hS.ent (i := 27) (s' := .pv (.int .i64 ((j + 1 : Nat) : Int))) rfl (.int (wrap_succ (by omega)))
     obtain ⟨F, hS⟩ := hS.nm [26, 25, 24, 23, 22, 21, 20, 19, 18, 17, 16, 15, 14, 13, 6, 5, 3, 2, 27] [104, 103, 102, 101, 50, 0, 51, 105] rfl rfl
     exact ⟨((j + 1), (v43), (ops ++ [(Go.Gm.nth (Go.Gm.nth g.txs i).ops j)] ++ [(Go.Gm.nth (Go.Gm.nth g.txs i).ops j)])), F, ⟨by omega, (by rw [dblO_step hil, ← hq]; first | (rw [if_pos hrd]; simp; done) | rw [if_neg hrd])⟩, hS, by omega⟩
    have hrd : ¬ (Go.Gm.nth (Go.Gm.nth g.txs i).ops j).read = true := by simpa using hc2
    refine wp_skip (block_n (then_n ?_))
    refine region_q hS
      (cF rfl (o_add .t (.ci (by kernel_rfl))) r1 trivial
      (cF rfl (oM .t) r1 trivial
      Chain.nil))
      hB ?_
    clear hS; intro a w F hS
    obtain ⟨F, hS⟩ := hS.nm [45, 38, 37, 36, 35, 34, 33, 32, 31, 30, 29, 28, 27, 26, 25, 24, 23, 22, 21, 20, 19, 18, 17, 16, 15, 14, 13, 8, 6, 5, 3, 2] [106, 105, 104, 103, 102, 101, 51, 50, 0] rfl rfl
    try dsimp only [rHist, rTx, rOrd, rVer, rInt, rOp] at hS
    refine then_n ?_
    replace hS := hS.ent (i := 27) (s' := .pv (.int .i64 ((j + 1 : Nat) : Int))) rfl (.int (wrap_succ (by omega)))
    obtain ⟨F, hS⟩ := hS.nm [26, 25, 24, 23, 22, 21, 20, 19, 18, 17, 16, 15, 14, 13, 6, 5, 3, 2, 27] [104, 103, 102, 101, 50, 0, 51, 105] rfl rfl
    exact ⟨((j + 1), (v35), (ops ++ [(Go.Gm.nth (Go.Gm.nth g.txs i).ops j)])), F, ⟨by omega, (by rw [dblO_step hil, ← hq]; first | (rw [if_pos hrd]; simp; done) | rw [if_neg hrd])⟩, hS, by omega⟩
   have hil : j = (Go.Gm.nth g.txs i).ops.length := by simp at hc1; omega
   rw [hil, List.take_length] at hq
   obtain ⟨F, hS⟩ := hS.giveCell 51 105 2 rfl rfl rfl rfl rfl
   try dsimp only [List.set] at hS
   obtain ⟨F, hS⟩ := hS.nm [28, 27, 26, 25, 24, 23, 22, 21, 20, 19, 18, 17, 16, 15, 14, 13, 6, 5, 3, 2] [105, 104, 103, 102, 101, 50, 0] rfl rfl
   have hop : ops = dblO (Go.Gm.nth g.txs i).ops := hq
   refine wp_exit (then_x (then_x (block_x (then_n ?_))))
   refine region_q hS
     (cF rfl (oF 0 103 .is) r1 r1
     (cF rfl (oL false 1 103 .adr) r1 r1
     (cF rfl (oL true 3 105 .is) r1 r1
     (cF rfl (o_buildSliceE (sz := 3) (zs := [.int .i64 0, .bool false, .slice none 0 0]) (r := [(0, .tmp 48)]) (l := [_, _, _]) Try.underlying22 (by kernel_rfl) (by kernel_rfl) (by kernel_rfl) (by kernel_rfl) rfl rfl (.agg rfl .t (by kernel_rfl) (by kernel_rfl) .nil) rfl) r1 trivial
     (cF rfl (o_append (sz := 3) (bs := 40) 50 (.mk' Try.underlying22 (by kernel_rfl) (by kernel_rfl)) (by intro x; rfl) .is (.arr (l' := [(⟨(Go.Gm.nth g.txs i).id, (Go.Gm.nth g.txs i).done, ops⟩ : TxD)]) .t) (by simp only [List.length_append, List.length_cons, List.length_nil]; omega) (by decide)) ⟨rfl, rfl, trivial⟩ ⟨rfl, trivial⟩
     (cF rfl (oF 0 103 .is) r1 r1
     (cF rfl (o_storeS 103 .adr (by kernel_rfl) (by kernel_rfl)) r2 r1
     Chain.nil)))))))
     hB ?_
   clear hS; intro a w F hS
   replace hS := hS.sub
   obtain ⟨F, hS⟩ := hS.nm [51, 50, 49, 48, 47, 46, 28, 27, 26, 25, 24, 23, 22, 21, 20, 19, 18, 17, 16, 15, 14, 13, 6, 5, 3, 2] [105, 104, 103, 102, 101, 50, 0] rfl rfl
   try dsimp only [RS.sub, SF.sub, CF.sub, csub, Anc.sub, List.map, stCells, xL, xM, Nat.reduceAdd, xD, xE, xT, xU, xC, xN, zCF, ldSF, rHist, rTx, rOrd, rVer, rInt, rOp] at hS
   generalize Act.tau a 50 = v50 at hS
   rw [show (⟨(Go.Gm.nth g.txs i).id, (Go.Gm.nth g.txs i).done, ops⟩ : TxD) = dblT (Go.Gm.nth g.txs i) from by rw [hop]; rfl] at hS
   refine block_n (then_n ?_)
   refine region_q hS
     (cF rfl (o_add .t (.ci (by kernel_rfl))) r1 trivial
     (cF rfl (oM .t) r1 trivial
     Chain.nil))
     hB ?_
   clear hS; intro a w F hS
   obtain ⟨F, hS⟩ := hS.nm [52, 51, 50, 49, 48, 47, 46, 28, 27, 26, 25, 24, 23, 22, 21, 20, 19, 18, 17, 16, 15, 14, 13, 6, 5, 3, 2] [105, 104, 103, 102, 101, 50, 0] rfl rfl
   try dsimp only [rHist, rTx, rOrd, rVer, rInt, rOp] at hS
   refine then_n ?_
   replace hS := hS.ent (i := 15) (s' := .pv (.int .i64 ((i + 1 : Nat) : Int))) rfl (.int (wrap_succ (by omega)))
   obtain ⟨F, hS⟩ := hS.nm [14, 13, 3, 2, 15] [102, 101, 0, 50, 103] rfl rfl
   exact ⟨((i + 1), (v50), (out ++ [dblT (Go.Gm.nth g.txs i)])), F, ⟨by omega, (by rw [take_nth hio, List.map_append, ← hqo, List.map_singleton])⟩, hS, by omega⟩
  have hil : i = g.txs.length := by simp at hc0; omega
  rw [hil, List.take_length] at hq
  obtain ⟨F, hS⟩ := hS.giveCell 50 103 0 rfl rfl rfl rfl rfl
  try dsimp only [List.set] at hS
  obtain ⟨F, hS⟩ := hS.nm [16, 15, 14, 13, 3, 2] [103, 102, 101, 0] rfl rfl
  refine wp_exit (then_x (then_x (block_x (then_n (wp_seq ?_)))))
  refine region_q hS
    (cF rfl (oL true 2 103 .is) r1 r1
    (cF rfl (oA 2 102 .is .t) r2 r1
    Chain.nil))
    hB ?_
  clear hS; intro a w F hS
  obtain ⟨F, hS⟩ := hS.nm [2] [103, 102, 101, 0] rfl rfl
  try dsimp only [List.map, stCells, xL, xM, Nat.reduceAdd, xD, xE, xT, xU, xC, xN, zCF, ldSF, rHist, rTx, rOrd, rVer, rInt, rOp] at hS
  refine then_n (wp_ret ?_)
  refine ret_P hfr hS rfl (.cell (n := 102) (ag := true) (sz := 2) rfl .is rfl (by kernel_rfl) (by kernel_rfl) (by kernel_rfl) .nil) (.one (.aggU rfl (by rw [hq]; rfl)))

end Go.Proofs.Ytdggmgiihdnlbaa
