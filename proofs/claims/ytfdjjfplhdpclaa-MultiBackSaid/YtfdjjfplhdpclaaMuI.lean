/- MultiBack. No condition beyond those that each theorem says. -/
import Derived.Test.YtfdjjfplhdpclaaMuF
namespace Go.Proofs.Ytfdjjfplhdpclaa
open Go Go.Gm
set_option linter.unusedVariables false
set_option linter.unusedSimpArgs false
set_option maxHeartbeats 4000000
set_option maxRecDepth 8000


theorem Cert.condS {P : Program} {o : Oper} {ops : Array Oper} {ps : List (Nat × SF)} {pr pr' pr2 : List (Nat × RS)} {q : SF} {j sj : Nat} {want β : Bool} (hg : o.guard = some (j, want))
    (hj : (ops[j]?).bind (·.dst) = some sj) (hc : rsClosed pr2 = true) (e1 : β = want → pr' = pr2) (e2 : ¬ β = want → ∀ x ∈ pr2, x ∈ pr) (h : β = want → OpC P o ⟨ps, pr, q, pr'⟩) : Go.Gm.Cert P ops o ⟨(sj, .pv (.bool β)) :: ps, pr, .when (β = want) q, pr2⟩ := fun a w F K Q hw hs hr ht => by
  have hb : Act.tau a sj = .bool β := hs (sj, .pv (.bool β)) (by simp)
  by_cases hβ : β = want
  · have : Region.wanted o (yielded ops a.tmps) = true := by simp [Region.wanted, hg, yielded_bool hj hb, hβ]
    rw [if_pos this]
    have e := e1 hβ; subst e
    exact h hβ a w F K Q hw (fun x hx => hs x (by simp [hx])) hr (fun v w' F' h1 h2 h3 h4 => ht v w' F' h1 h2 ⟨fun _ => h3, fun h => absurd hβ h⟩ h4)
  · have : Region.wanted o (yielded ops a.tmps) = false := by
      simp [Region.wanted, hg, yielded_bool hj hb, hβ]
    rw [this]
    have e := e2 hβ
    exact ht _ w F hw (Stp.any _ w F) ⟨fun h => absurd h hβ, fun _ => rfl⟩ (fun x hx => RS.closed (rsClosed_mem hc hx) (hr x (e x hx)))

theorem sorted_ext : ∀ {a b : List HvD}, a.Pairwise (fun x y => edgeN x.edge < edgeN y.edge) → b.Pairwise (fun x y => edgeN x.edge < edgeN y.edge) → (∀ x, x ∈ a ↔ x ∈ b) → a = b
  | [], [], _, _, _ => rfl
  | [], y :: b, _, _, hm => by have := (hm y).2 (by simp); cases this
  | x :: a, [], _, _, hm => by have := (hm x).1 (by simp); cases this
  | x :: a, y :: b, ha, hb, hm => by
    have ha' := List.pairwise_cons.1 ha
    have hb' := List.pairwise_cons.1 hb
    have e1 : x = y := by
      rcases List.mem_cons.1 ((hm x).1 (by simp)) with e | e
      · exact e
      · rcases List.mem_cons.1 ((hm y).2 (by simp)) with e2 | e2
        · exact e2.symm
        · have := ha'.1 y e2; have := hb'.1 x e; omega
    subst e1
    congr 1
    refine sorted_ext ha'.2 hb'.2 fun z => ⟨fun hz => ?_, fun hz => ?_⟩
    · rcases List.mem_cons.1 ((hm z).1 (List.mem_cons_of_mem _ hz)) with e | e
      · subst e; have := ha'.1 z hz; omega
      · exact e
    · rcases List.mem_cons.1 ((hm z).2 (List.mem_cons_of_mem _ hz)) with e | e
      · subst e; have := hb'.1 z hz; omega
      · exact e
theorem bag_sub {X Y : List HvD} (h1 : BagOk X) (h2 : BagOk Y) (h : ∀ e, cntB X e = cntB Y e) {x : HvD} (hx : x ∈ X) : x ∈ Y := by
  have hc := cntB_mem h1 hx
  rw [h x.edge] at hc
  have hp := h1.pos x hx
  have := cntB_pos h2 (e := x.edge) (by omega)
  rw [hc] at this
  exact this
theorem bag_ext {X Y : List HvD} (h1 : BagOk X) (h2 : BagOk Y) (h : ∀ e, cntB X e = cntB Y e) : X = Y := sorted_ext h1.inc h2.inc fun _ => ⟨fun hx => bag_sub h1 h2 h hx, fun hx => bag_sub h2 h1 (fun e => (h e).symm) hx⟩
def sumE : List HvD → EdgeD → Int
  | [], _ => 0
  | x :: l, e => (if x.edge = e then x.cnt else 0) + sumE l e
theorem sumE_app (a b : List HvD) (e : EdgeD) : sumE (a ++ b) e = sumE a e + sumE b e := by
  induction a with
  | nil => simp [sumE]
  | cons x a ih => simp only [List.cons_append, sumE, ih]; omega
def DnOk (l : List HvD) : Prop := ∀ x ∈ l, 0 < x.cnt ∧ x.cnt < 1000000 ∧ rightB x.edge = true
theorem sumE_pos {l : List HvD} (h : DnOk l) (e : EdgeD) : 0 ≤ sumE l e := by
  induction l with
  | nil => exact Int.le_refl _
  | cons x l ih =>
    have h1 := ih fun y hy => h y (by simp [hy])
    have h2 := h x (by simp)
    unfold sumE
    split <;> omega
structure BackOk (B0 X : List HvD) (dn : List HvD) : Prop where
  ok : BagOk X
  cnt : ∀ e, cntB X e = cntB B0 e + sumE dn e
theorem BackOk.start {B0 : List HvD} (h : BagOk B0) : BackOk B0 B0 [] := ⟨h, fun e => by simp [sumE]⟩
theorem addB_can {X : List HvD} {e : EdgeD} {n : Int} (he : rightB e = true) (h1 : 0 ≤ cntB X e + n) (h2 : cntB X e + n ≤ 2147483647) : addB X e n = (putB X e (cntB X e + n), 0) := by
  unfold addB
  rw [if_pos he, if_neg (by omega), if_neg (by omega)]
theorem addB_zero {X : List HvD} {e : EdgeD} {n : Int} (hw : (addB X e n).2 = 0) : rightB e = true ∧ 0 ≤ cntB X e + n ∧ cntB X e + n ≤ 2147483647 := by
  unfold addB at hw
  split at hw
  · rename_i he
    split at hw
    · exact absurd hw (by show ¬ (3 : Int) = 0; decide)
    · split at hw
      · exact absurd hw (by show ¬ (2 : Int) = 0; decide)
      · exact ⟨he, by omega, by omega⟩
  · exact absurd hw (by show ¬ (1 : Int) = 0; decide)
theorem addB_no {X : List HvD} {e : EdgeD} {n : Int} (hw : ¬ (addB X e n).2 = 0) : (addB X e n).1 = X := by
  unfold addB at *
  split at hw
  · rename_i he
    rw [if_pos he]
    split at hw
    · rename_i h1; rw [if_pos h1]
    · rename_i h1
      rw [if_neg h1]
      split at hw
      · rename_i h2; rw [if_pos h2]
      · exact absurd rfl hw
  · rename_i he; rw [if_neg he]
theorem cnt_add {X : List HvD} (h : BagOk X) {e : EdgeD} {n : Int} (he : rightB e = true) (h1 : 0 ≤ cntB X e + n) (h2 : cntB X e + n ≤ 2147483647) (d : EdgeD) : cntB (addB X e n).1 d = cntB X d + (if e = d then n else 0) := by
  rw [addB_can he h1 h2]
  show cntB (putB X e _) d = _
  rw [cntB_put h he ⟨h1, h2⟩]
  by_cases hd : d = e
  · subst hd; simp
  · rw [if_neg hd, if_neg fun k => hd k.symm]; omega
theorem BackOk.push {B0 X dn : List HvD} (h : BackOk B0 X dn) {x : HvD} (hw : (addB X x.edge x.cnt).2 = 0) : BackOk B0 (addB X x.edge x.cnt).1 (dn ++ [x]) := by
  obtain ⟨he, h1, h2⟩ := addB_zero hw
  refine ⟨addB_ok h.ok _ _, fun e => ?_⟩
  rw [cnt_add h.ok he h1 h2, h.cnt, sumE_app]
  simp only [sumE]; omega
theorem BackOk.cons {B0 X Y s t : List HvD} {x : HvD} (hf : BackOk B0 X (s ++ x :: t)) (hd : DnOk (s ++ x :: t)) (h : BackOk B0 Y t) : (addB Y x.edge x.cnt).2 = 0 ∧ BackOk B0 (addB Y x.edge x.cnt).1 (x :: t) := by
  have hx := hd x (by simp)
  have h1 := hf.cnt x.edge
  rw [sumE_app] at h1
  simp only [sumE, if_true] at h1
  have h2 := sumE_pos (l := s) (fun y hy => hd y (by simp [hy])) x.edge
  have h3 := cntB_bd hf.ok x.edge
  have h4 := h.cnt x.edge
  have h5 := cntB_bd h.ok x.edge
  have ha : 0 ≤ cntB Y x.edge + x.cnt := by omega
  have hb : cntB Y x.edge + x.cnt ≤ 2147483647 := by omega
  refine ⟨by rw [addB_can hx.2.2 ha hb], addB_ok h.ok _ _, fun e => ?_⟩
  rw [cnt_add h.ok hx.2.2 ha hb, h.cnt]
  simp only [sumE]; omega
theorem BackOk.pop {B0 Y t : List HvD} {x : HvD} (h0 : BagOk B0) (hd : DnOk (x :: t)) (h : BackOk B0 Y (x :: t)) : (addB Y x.edge (-x.cnt)).2 = 0 ∧ BackOk B0 (addB Y x.edge (-x.cnt)).1 t := by
  have hx := hd x (by simp)
  have h4 := h.cnt x.edge
  simp only [sumE, if_true] at h4
  have h2 := sumE_pos (l := t) (fun y hy => hd y (by simp [hy])) x.edge
  have h3 := cntB_bd h0 x.edge
  have h5 := cntB_bd h.ok x.edge
  have ha : 0 ≤ cntB Y x.edge + -x.cnt := by omega
  have hb : cntB Y x.edge + -x.cnt ≤ 2147483647 := by omega
  refine ⟨by rw [addB_can hx.2.2 ha hb], addB_ok h.ok _ _, fun e => ?_⟩
  rw [cnt_add h.ok hx.2.2 ha hb, h.cnt]
  simp only [sumE]
  by_cases he : x.edge = e <;> simp [he] <;> omega

theorem mback_c (first l : List HvD) : FnP Try.prog 4 [.sl rHv first, .sl rHv l] (.bool true) := by
  refine FnP.mk Try.func4 rfl Try.ntmps4 rfl ?_
  intro B a w F hB hfr hS
  have hll := Sat.lenSl hS (i := 1) rfl
  have hfl := Sat.lenSl hS (i := 0) rfl
  refine wp_seq ?_
  refine region_q hS
    (cF rfl (oN .cb) trivial trivial
    Chain.nil)
    hB ?_
  clear hS; intro a w F hS
  obtain ⟨F, hS⟩ := hS.nm [4, 1, 0] [0] rfl rfl
  try dsimp only [rEdge, rHv] at hS
  refine then_n (wp_seq (wp_seq ?_))
  refine region_q hS
    (cF rfl (oP (lives17_c) Try.func5 Args.nil) trivial trivial
    (cF rfl (o_not .t) r1 trivial
    Chain.nil))
    hB ?_
  clear hS; intro a w F hS
  obtain ⟨F, hS⟩ := hS.nm [16, 4, 1, 0] [0] rfl rfl
  try dsimp only [rEdge, rHv] at hS
  refine then_n ?_
  refine cond_b hS rfl (fun hc0 => ?_) (fun hc0 => ?_)
  ·skip
   simp at hc0
  refine wp_skip (then_n (wp_seq (wp_seq ?_)))
  refine region_q hS
    (cF rfl (oM .t) r1 trivial
    (cF rfl (o_len_sl Try.underlying22 .t) r1 trivial
    (cF rfl (o_gtr .t (.ci (by kernel_rfl))) r1 trivial
    (cF rfl (oM .t) r1 trivial
    (Chain.cons (Cert.cond rfl rfl (fun h => o_move .t (by rfl))) r2 trivial
    (Chain.cons (Cert.cond rfl rfl (fun h => o_len_sl Try.underlying22 (.w h))) r2 trivial
    (Chain.cons (Cert.cond rfl rfl (fun h => o_gtr (.w h) (.ci (by kernel_rfl)))) r2 trivial
    (cF rfl (o_or2 .t .t) r2 trivial
    Chain.nil))))))))
    hB ?_
  clear hS; intro a w F hS
  obtain ⟨F, hS⟩ := hS.nm [24, 4, 1, 0] [0] rfl rfl
  try dsimp only [rEdge, rHv] at hS
  refine then_n ?_
  refine cond_b hS rfl (fun hc1 => ?_) (fun hc1 => ?_)
  ·skip
   refine wp_seq ?_
   refine region_q hS
     (cF rfl (oN .cb) trivial trivial
     Chain.nil)
     hB ?_
   clear hS; intro a w F hS
   obtain ⟨F, hS⟩ := hS.nm [4, 1, 0] [0] rfl rfl
   try dsimp only [rEdge, rHv] at hS
   refine then_n (wp_ret (then_r ?_))
   refine ret_P hfr hS rfl (.tmp rfl .nil) (.one (.bool (by first | rfl | simp)))
  have hll2 : l.length ≤ 60 ∧ first.length ≤ 60 := by simp at hc1; omega
  have hB00 : BagOk (ofB first) := ofB_ok first
  have hl00 := ofB_len first
  refine wp_skip (then_n (wp_seq ?_))
  replace hS := hS.fresh 61 rfl
  refine part_first 2 hS (by kernel_rfl)
    (cG rfl (oM .t) r1 trivial
    (cG rfl (o_callN 61 (mof_c first (by omega)) Try.func6 rfl (by kernel_rfl) (Args.one .t) PV.ptr_one) r1 r1
    ChainN.nil))
    (by kernel_rfl) (by rw [hB]; kernel_rfl) ?_
  clear hS; intro a w F hS
  replace hS := hS.sub
  obtain ⟨F, hS⟩ := hS.nm [26, 4, 1, 0] [61, 0] rfl rfl
  try dsimp only [RS.sub, SF.sub, CF.sub, csub, Anc.sub, List.map, rEdge, rHv] at hS
  generalize Act.tau a 26 = v26 at hS
  obtain ⟨_, _, _, ho⟩ := hS.obGet 61 rfl
  obtain ⟨b1, rfl⟩ := mulH_ptr ho
  clear ho
  replace hS := hS.turn 61 rfl (r' := RS.hp (mulH (.pointer (some ⟨b1, 0, none⟩)) (ofB first))) (fun _ _ _ _ h => h)
  obtain ⟨F, hS⟩ := hS.nm [26, 4, 1, 0] [61, 0] rfl rfl
  replace hS := hS.fresh 62 rfl
  refine part_next 2 hS (by kernel_rfl)
    (cG rfl (oM .t) r1 trivial
    (cG rfl (o_callN 62 (mof_c first (by omega)) Try.func6 rfl (by kernel_rfl) (Args.one .t) PV.ptr_one) r1 r1
    ChainN.nil))
    (by kernel_rfl) (by rw [hB]; kernel_rfl) ?_
  clear hS; intro a w F hS
  replace hS := hS.sub
  obtain ⟨F, hS⟩ := hS.nm [28, 26, 4, 1] [62, 61, 0] rfl rfl
  try dsimp only [RS.sub, SF.sub, CF.sub, csub, Anc.sub, List.map, rEdge, rHv] at hS
  generalize Act.tau a 28 = v28 at hS
  obtain ⟨_, _, _, ho⟩ := hS.obGet 62 rfl
  obtain ⟨b2, rfl⟩ := mulH_ptr ho
  clear ho
  replace hS := hS.turn 62 rfl (r' := RS.hp (mulH (.pointer (some ⟨b2, 0, none⟩)) (ofB first))) (fun _ _ _ _ h => h)
  obtain ⟨F, hS⟩ := hS.nm [28, 26, 4, 1] [62, 61, 0] rfl rfl
  refine part_last hS (by kernel_rfl)
    (cG rfl (oN .t) r1 trivial
    (cG rfl (oN .t) r1 trivial
    ChainN.nil))
    (by kernel_rfl) (by rw [hB]; kernel_rfl) ?_
  clear hS; intro a w F hS
  obtain ⟨F, hS⟩ := hS.nm [6, 5, 4, 1] [62, 61, 0] rfl rfl
  try dsimp only [rEdge, rHv] at hS
  refine then_n (wp_seq (wp_seq ?_))
  refine region_q hS
    (cF rfl (oM .t) r1 trivial
    (cF rfl (o_nil_eql _ Try.underlying26 rfl .t) r1 trivial
    (cF rfl (oM .t) r1 trivial
    (Chain.cons (Cert.cond rfl rfl (fun h => o_move .t (by rfl))) r2 trivial
    (Chain.cons (Cert.cond rfl rfl (fun h => o_nil_eql _ Try.underlying26 rfl (.w h))) r2 trivial
    (cF rfl (o_or2 .t .t) r2 trivial
    Chain.nil))))))
    hB ?_
  clear hS; intro a w F hS
  obtain ⟨F, hS⟩ := hS.nm [34, 6, 5, 4, 1] [62, 61, 0] rfl rfl
  try dsimp only [rEdge, rHv] at hS
  refine then_n ?_
  refine cond_b hS rfl (fun hc2 => ?_) (fun hc2 => ?_)
  ·skip
   simp at hc2
  refine wp_skip (then_n (wp_seq ?_))
  refine region_q hS
    (cF rfl (oM .t) r1 trivial
    (cF rfl (o_callG1 61 (medges_c b1 (ofB first)) Try.func11 rfl (by kernel_rfl) (Args.one .t)) r1 r1
    (cF rfl (oN .t) r1 trivial
    Chain.nil)))
    hB ?_
  clear hS; intro a w F hS
  obtain ⟨F, hS⟩ := hS.nm [7, 6, 5, 4, 1] [62, 61, 0] rfl rfl
  try dsimp only [rEdge, rHv] at hS
  refine then_n (wp_seq ?_)
  refine region_q hS
    (cF rfl (oN (.c rfl)) trivial trivial
    Chain.nil)
    hB ?_
  clear hS; intro a w F hS
  obtain ⟨F, hS⟩ := hS.nm [8, 7, 6, 5, 4, 1] [62, 61, 0] rfl rfl
  try dsimp only [rEdge, rHv] at hS
  refine then_n (wp_seq (wp_seq ?_))
  refine region_q hS
    (cF rfl (oM .t) r1 trivial
    (cF rfl (o_len_sl Try.underlying22 .t) r1 trivial
    (cF rfl (oM (.ci (by kernel_rfl))) trivial trivial
    Chain.nil)))
    hB ?_
  clear hS; intro a w F hS
  obtain ⟨F, hS⟩ := hS.nm [39, 38, 37, 8, 7, 6, 5, 4] [62, 61, 0] rfl rfl
  try dsimp only [rEdge, rHv] at hS
  refine then_n (wp_block ?_)
  replace hS := hS.fresh 50 rfl
  replace hS := hS.turn 50 rfl (nilRow (T := 31) (sz := 5) (R := rHv))
  refine loop_keep (σ := (Nat) × (List HvD) × (Value) × (List HvD)) [4, 5, 6, 7, 37, 38] [0, 62] (fun s => [(39, .pv (.int .i64 (s.1 : Int))), (8, .pv (.is s.2.2.1))]) (fun s => [(61, RS.hp (mulH (.pointer (some ⟨b1, 0, none⟩)) s.2.1)), (50, .ob (.val s.2.2.1) (rowH 31 5 rHv s.2.2.2))]) (fun s => s.1 ≤ l.length ∧ (BackOk (ofB first) s.2.1 s.2.2.2 ∧ DnOk s.2.2.2 ∧ s.2.2.2.length ≤ s.1 ∧ s.2.1.length ≤ 60 + s.1)) (fun s => l.length - s.1) ((0), ((ofB first)), (.slice none 0 0), ([])) hS ⟨rfl, rfl, rfl, rfl, rfl, rfl, rfl, rfl, trivial⟩ ⟨rfl, rfl, rfl, rfl, trivial⟩ ⟨Nat.zero_le _, ⟨BackOk.start hB00, (fun x hx => by cases hx), Nat.le_refl 0, by show (ofB first).length ≤ 60 + 0; omega⟩⟩ ?_
  clear hS; intro s a w F hC hS
  obtain ⟨i, bm, v, dn⟩ := s
  try dsimp only at hC
  obtain ⟨F, hS⟩ := hS.nm [39, 38, 37, 8, 7, 6, 5, 4] [62, 61, 50, 0] rfl rfl
  try dsimp only at hS
  obtain ⟨hi, hq⟩ := hC
  obtain ⟨hK, hD, hdl, hbl⟩ := hq
  refine wp_seq ?_
  refine region_q hS
    (cF rfl (o_lss .t .t) r2 trivial
    Chain.nil)
    hB ?_
  clear hS; intro a w F hS
  obtain ⟨F, hS⟩ := hS.nm [40, 39, 38, 37, 8, 7, 6, 5, 4] [62, 61, 50, 0] rfl rfl
  try dsimp only [rEdge, rHv] at hS
  refine then_n (wp_seq ?_)
  refine cond_b hS rfl (fun hc3 => ?_) (fun hc3 => ?_)
  ·skip
   have hil : i < l.length := by simp at hc3; omega
   refine wp_skip (then_n (wp_seq (wp_block (wp_seq ?_))))
   refine region_q hS
     (cF rfl (o_indexAddr_sl (sz := 5) (.mk Try.underlying22 (by kernel_rfl)) (by intro x; rfl) .t .t (by omega) (by omega)) r2 trivial
     (cF rfl (oR true 5 .t) r1 trivial
     (cF rfl (oH [.int .i64 0, .int .i64 0, .int .i64 0, .int .i64 0, .int .i64 0] 101) trivial trivial
     (cF rfl (oA 5 101 .same .t) r2 r1
     Chain.nil))))
     hB ?_
   clear hS; intro a w F hS
   replace hS := hS.sub
   obtain ⟨F, hS⟩ := hS.nm [39, 38, 37, 10, 8, 7, 6, 5, 4] [101, 62, 61, 50, 0] rfl rfl
   try dsimp only [RS.sub, SF.sub, CF.sub, csub, Anc.sub, List.map, stCells, xL, xM, Nat.reduceAdd, xD, xE, xT, xU, xC, xN, zCF, ldSF, rEdge, rHv] at hS
   generalize Act.tau a 10 = v10 at hS
   try simp only [Int.toNat_natCast] at hS
   refine then_n (wp_seq ?_)
   refine region_q hS
     (cF rfl (oF 4 101 .is) r1 r1
     (cF rfl (oL false 1 101 .adr) r1 r1
     (cF rfl (o_gtr .t (.ci (by kernel_rfl))) r1 trivial
     (cF rfl (oM .t) r1 trivial
     (Chain.cons (Cert.cond rfl rfl (fun h => o_fieldAddr (off := 4) 101 .is (by kernel_rfl) (by rfl))) r2 r1
     (Chain.cons (Cert.cond rfl rfl (fun h => o_load (ag := false) (sz := 1) 101 (.w h .adr) (by kernel_rfl) (by kernel_rfl) (by kernel_rfl) (by rfl))) r2 r1
     (Chain.cons (Cert.cond rfl rfl (fun h => o_lss (.w h) (.ci (by kernel_rfl)))) r2 trivial
     (cF rfl (o_and2 .t .t) r2 trivial
     (cF rfl (oM .t) r1 trivial
     (Chain.cons (Cert.cond rfl rfl (fun h => o_move .t (by rfl))) r2 trivial
     (Chain.cons (Cert.cond rfl rfl (fun h => o_fieldAddr (off := 0) 101 .is (by kernel_rfl) (by rfl))) r2 r1
     (Chain.cons (Cert.cond rfl rfl (fun h => o_load (ag := true) (sz := 4) 101 (.w h .adr) (by kernel_rfl) (by kernel_rfl) (by kernel_rfl) (by rfl))) r2 r1
     (Chain.cons (Cert.cond rfl rfl (fun h => o_fieldAddr (off := 4) 101 .is (by kernel_rfl) (by rfl))) r2 r1
     (Chain.cons (Cert.cond rfl rfl (fun h => o_load (ag := false) (sz := 1) 101 (.w h .adr) (by kernel_rfl) (by kernel_rfl) (by kernel_rfl) (by rfl))) r2 r1
     (Chain.cons (Cert.condS (pr2 := [(61, RS.hp (mulH (.pointer (some ⟨b1, 0, none⟩)) (if (0 < (Go.Gm.nth l i).cnt ∧ (Go.Gm.nth l i).cnt < 1000000) then (addB bm (Go.Gm.nth l i).edge (Go.Gm.nth l i).cnt).1 else bm)))]) rfl rfl (by rfl) (fun hb => by rw [if_pos (by simpa using hb)]) (fun hb x hx => by rw [if_neg (by simpa using hb)] at hx; simp only [List.mem_singleton] at hx; subst hx; first | exact List.mem_cons_of_mem _ (List.mem_singleton.2 rfl) | simp) (fun h => o_callG1 61 (madd_c b1 bm (Go.Gm.nth l i).edge (Go.Gm.nth l i).cnt (by omega)) Try.func10 rfl (by kernel_rfl) (Args.three (.w h) (.pagg (.w h)) (.w h)))) r4 r1
     (Chain.cons (Cert.cond rfl rfl (fun h => o_eql (.w h) (.ci (by kernel_rfl)))) r2 trivial
     (cF rfl (o_and2 .t .t) r2 trivial
     Chain.nil)))))))))))))))))
     hB ?_
   clear hS; intro a w F hS
   obtain ⟨F, hS⟩ := hS.nm [59, 39, 38, 37, 10, 8, 7, 6, 5, 4] [101, 62, 61, 50, 0] rfl rfl
   try dsimp only [List.map, xD, xE, xT, xU, ldSF, rEdge, rHv] at hS
   obtain ⟨bm2, hbm2⟩ : ∃ z, z = (if (0 < (Go.Gm.nth l i).cnt ∧ (Go.Gm.nth l i).cnt < 1000000) then (addB bm (Go.Gm.nth l i).edge (Go.Gm.nth l i).cnt).1 else bm) := ⟨_, rfl⟩
   rw [← hbm2] at hS
   refine then_n ?_
   refine cond_b hS rfl (fun hc4 => ?_) (fun hc4 => ?_)
   ·skip
    have hb2 := hc4
    have hb3 : (0 < (Go.Gm.nth l i).cnt ∧ (Go.Gm.nth l i).cnt < 1000000) ∧ (addB bm (Go.Gm.nth l i).edge (Go.Gm.nth l i).cnt).2 = 0 := by simpa [and_assoc] using hb2
    have hbm2e : bm2 = (addB bm (Go.Gm.nth l i).edge (Go.Gm.nth l i).cnt).1 := by rw [hbm2, if_pos hb3.1]
    have hK2 : BackOk (ofB first) bm2 (dn ++ [(Go.Gm.nth l i)]) := by rw [hbm2e]; exact hK.push hb3.2
    have hD2 : DnOk (dn ++ [(Go.Gm.nth l i)]) := fun x hx => by
      rcases List.mem_append.1 hx with h9 | h9
      · exact hD x h9
      · rw [List.mem_singleton] at h9; subst h9; exact ⟨hb3.1.1, hb3.1.2, (addB_zero hb3.2).1⟩
    refine region_q hS
      (cF rfl (oM .t) r1 trivial
      (cF rfl (oL true 5 101 .is) r1 r1
      (cF rfl (o_buildSliceE (sz := 5) (zs := [.int .i64 0, .int .i64 0, .int .i64 0, .int .i64 0, .int .i64 0]) (r := [(0, .tmp 61)]) (l := [_, _, _, _, _]) Try.underlying22 (by kernel_rfl) (by kernel_rfl) (by kernel_rfl) (by kernel_rfl) rfl rfl (.agg rfl .t (by kernel_rfl) (by kernel_rfl) .nil) rfl) r1 trivial
      (cF rfl (o_append (sz := 5) (bs := 40) 50 (.mk' Try.underlying22 (by kernel_rfl) (by kernel_rfl)) (by intro x; rfl) .is (.arr (l' := [(Go.Gm.nth l i)]) .t) (by simp only [List.length_append, List.length_cons, List.length_nil]; omega) (by decide)) ⟨rfl, rfl, trivial⟩ ⟨rfl, trivial⟩
      (cF rfl (oN .t) r1 trivial
      Chain.nil)))))
      hB ?_
    clear hS; intro a w F hS
    replace hS := hS.sub
    obtain ⟨F, hS⟩ := hS.nm [39, 38, 37, 8, 7, 6, 5, 4] [62, 61, 50, 0] rfl rfl
    try dsimp only [RS.sub, SF.sub, CF.sub, csub, Anc.sub, List.map, stCells, xL, xM, Nat.reduceAdd, xD, xE, xT, xU, xC, xN, zCF, ldSF, rEdge, rHv] at hS
    generalize Act.tau a 63 = v63 at hS
    refine block_n (then_n ?_)
    refine region_q hS
      (cF rfl (o_add .t (.ci (by kernel_rfl))) r1 trivial
      (cF rfl (oM .t) r1 trivial
      Chain.nil))
      hB ?_
    clear hS; intro a w F hS
    obtain ⟨F, hS⟩ := hS.nm [39, 38, 37, 8, 7, 6, 5, 4] [62, 61, 50, 0] rfl rfl
    try dsimp only [rEdge, rHv] at hS
    refine then_n ?_
    replace hS := hS.ent (i := 39) (s' := .pv (.int .i64 ((i + 1 : Nat) : Int))) rfl (.int (wrap_succ (by omega)))
    obtain ⟨F, hS⟩ := hS.nm [38, 37, 7, 6, 5, 4, 8, 39] [62, 0, 50, 61] rfl rfl
    exact ⟨((i + 1), (bm2), _, _), F, ⟨by omega, ⟨hK2, hD2, (by show (dn ++ [(Go.Gm.nth l i)]).length ≤ i + 1; rw [List.length_append, List.length_singleton]; omega), (by show bm2.length ≤ 60 + (i + 1); rw [hbm2e]; have := addB_len hK.ok (Go.Gm.nth l i).edge (Go.Gm.nth l i).cnt; omega)⟩⟩, hS, by omega⟩
   have hb2 := hc4
   have hbm2e : bm2 = bm := by
     rw [hbm2]
     by_cases hc : (0 < (Go.Gm.nth l i).cnt ∧ (Go.Gm.nth l i).cnt < 1000000)
     · rw [if_pos hc]
       refine addB_no fun h9 => ?_
       rw [h9] at hb2
       simp [hc.1, hc.2] at hb2
     · rw [if_neg hc]
   refine wp_skip (block_n (then_n ?_))
   refine region_q hS
     (cF rfl (o_add .t (.ci (by kernel_rfl))) r1 trivial
     (cF rfl (oM .t) r1 trivial
     Chain.nil))
     hB ?_
   clear hS; intro a w F hS
   obtain ⟨F, hS⟩ := hS.nm [39, 38, 37, 8, 7, 6, 5, 4] [62, 61, 50, 0] rfl rfl
   try dsimp only [rEdge, rHv] at hS
   refine then_n ?_
   replace hS := hS.ent (i := 39) (s' := .pv (.int .i64 ((i + 1 : Nat) : Int))) rfl (.int (wrap_succ (by omega)))
   obtain ⟨F, hS⟩ := hS.nm [38, 37, 7, 6, 5, 4, 8, 39] [62, 0, 50, 61] rfl rfl
   exact ⟨((i + 1), (bm2), _, _), F, ⟨by omega, ⟨(by rw [hbm2e]; exact hK), hD, (by show dn.length ≤ i + 1; omega), (by show bm2.length ≤ 60 + (i + 1); rw [hbm2e]; omega)⟩⟩, hS, by omega⟩
  have hil : i = l.length := by simp at hc3; omega
  refine wp_exit (then_x (then_x (block_x (then_n (wp_seq (wp_seq ?_))))))
  refine region_q hS
    (cF rfl (oM .t) r1 trivial
    (cF rfl (o_len_row 50 Try.underlying22 .is) r1 r1
    (cF rfl (oM (.ci (by kernel_rfl))) trivial trivial
    Chain.nil)))
    hB ?_
  clear hS; intro a w F hS
  obtain ⟨F, hS⟩ := hS.nm [67, 66, 8, 7, 6, 5, 4] [62, 61, 50, 0] rfl rfl
  try dsimp only [rEdge, rHv] at hS
  refine then_n (wp_block ?_)
  refine loop_keep (σ := (Nat) × (List HvD)) [4, 5, 6, 7, 8, 66] [0, 50, 61] (fun s => [(67, .pv (.int .i64 (s.1 : Int)))]) (fun s => [(62, RS.hp (mulH (.pointer (some ⟨b2, 0, none⟩)) s.2))]) (fun s => s.1 ≤ dn.length ∧ (BackOk (ofB first) s.2 (dn.drop (dn.length - s.1)) ∧ s.2.length ≤ 60 + s.1)) (fun s => dn.length - s.1) ((0), ((ofB first))) hS ⟨rfl, rfl, rfl, rfl, rfl, rfl, rfl, trivial⟩ ⟨rfl, rfl, rfl, rfl, trivial⟩ ⟨Nat.zero_le _, ⟨by show BackOk _ _ (dn.drop (dn.length - 0)); rw [Nat.sub_zero, List.drop_length]; exact BackOk.start hB00, by show (ofB first).length ≤ 60 + 0; omega⟩⟩ ?_
  clear hS; intro s a w F hC hS
  obtain ⟨i, bk⟩ := s
  try dsimp only at hC
  obtain ⟨F, hS⟩ := hS.nm [67, 66, 8, 7, 6, 5, 4] [62, 61, 50, 0] rfl rfl
  try dsimp only at hS
  obtain ⟨hi, hq⟩ := hC
  obtain ⟨hK2, hbl2⟩ := hq
  refine wp_seq ?_
  refine region_q hS
    (cF rfl (o_lss .t .t) r2 trivial
    Chain.nil)
    hB ?_
  clear hS; intro a w F hS
  obtain ⟨F, hS⟩ := hS.nm [68, 67, 66, 8, 7, 6, 5, 4] [62, 61, 50, 0] rfl rfl
  try dsimp only [rEdge, rHv] at hS
  refine then_n (wp_seq ?_)
  refine cond_b hS rfl (fun hc5 => ?_) (fun hc5 => ?_)
  ·skip
   have hil : i < dn.length := by simp at hc5; omega
   have hwk : IntKind.wrap .i64 (IntKind.wrap .i64 ((dn.length : Int) - 1) - (i : Int)) = ((dn.length - 1 - i : Nat) : Int) := by rw [wrap_i64 (x := (dn.length : Int) - 1) (by omega), wrap_i64 (by omega)]; omega
   have hdrop : (Go.Gm.nth dn (dn.length - 1 - i)) :: dn.drop (dn.length - i) = dn.drop (dn.length - (i + 1)) := by rw [show dn.length - (i + 1) = dn.length - 1 - i by omega, drop_nth (show dn.length - 1 - i < dn.length by omega), show dn.length - 1 - i + 1 = dn.length - i by omega]
   have hsp : dn = dn.take (dn.length - 1 - i) ++ (Go.Gm.nth dn (dn.length - 1 - i)) :: dn.drop (dn.length - i) := by rw [hdrop, show dn.length - (i + 1) = dn.length - 1 - i by omega, List.take_append_drop]
   have hst := BackOk.cons (s := dn.take (dn.length - 1 - i)) (hsp ▸ hK) (hsp ▸ hD) hK2
   refine wp_skip (then_n (wp_seq (wp_block (wp_seq ?_))))
   refine region_q hS
     (cF rfl (oM .t) r1 trivial
     (cF rfl (oN .t) r1 trivial
     Chain.nil))
     hB ?_
   clear hS; intro a w F hS
   obtain ⟨F, hS⟩ := hS.nm [67, 66, 11, 8, 7, 6, 5, 4] [62, 61, 50, 0] rfl rfl
   try dsimp only [rEdge, rHv] at hS
   refine then_n (wp_seq ?_)
   refine region_q hS
     (cF rfl (oM .t) r1 trivial
     (cF rfl (oM .t) r1 trivial
     (cF rfl (o_len_row 50 Try.underlying22 .is) r1 r1
     (cF rfl (o_sub .t (.ci (by kernel_rfl))) r1 trivial
     (cF rfl (oM .t) r1 trivial
     (cF rfl (o_sub .t .t) r2 trivial
     (cF rfl (o_indexAddr_row (sz := 5) 50 (.mk Try.underlying22 (by kernel_rfl)) .is .t (by rw [hwk]; omega) (by rw [hwk]; omega) (by rfl)) r2 r1
     (cF rfl (o_load_row0 (ag := true) (sz' := 5) (sz := 5) 50 .t (by intro x; rfl) (by rw [hwk, Int.toNat_natCast]; omega) (by kernel_rfl) (by kernel_rfl) (by kernel_rfl)) r1 r1
     (cF rfl (oH [.int .i64 0, .int .i64 0, .int .i64 0, .int .i64 0, .int .i64 0] 102) trivial trivial
     (cF rfl (oA 5 102 .same .t) r2 r1
     Chain.nil))))))))))
     hB ?_
   clear hS; intro a w F hS
   replace hS := hS.sub
   obtain ⟨F, hS⟩ := hS.nm [67, 66, 12, 8, 7, 6, 5, 4] [102, 62, 61, 50, 0] rfl rfl
   try dsimp only [RS.sub, SF.sub, CF.sub, csub, Anc.sub, List.map, stCells, xL, xM, Nat.reduceAdd, xD, xE, xT, xU, xC, xN, zCF, ldSF, rEdge, rHv] at hS
   generalize Act.tau a 12 = v12 at hS
   try simp only [Int.toNat_natCast] at hS
   rw [hwk] at hS
   try simp only [Int.toNat_natCast] at hS
   refine then_n (wp_seq ?_)
   refine region_q hS
     (cF rfl (oM .t) r1 trivial
     (cF rfl (oF 0 102 .is) r1 r1
     (cF rfl (oL true 4 102 .adr) r1 r1
     (cF rfl (oF 4 102 .is) r1 r1
     (cF rfl (oL false 1 102 .adr) r1 r1
     (cF rfl (o_callG1 62 (madd_c b2 bk (Go.Gm.nth dn (dn.length - 1 - i)).edge (Go.Gm.nth dn (dn.length - 1 - i)).cnt (by omega)) Try.func10 rfl (by kernel_rfl) (Args.three .t (.pagg .t) .t)) r3 r1
     (cF rfl (o_neq .t (.ci (by kernel_rfl))) r1 trivial
     Chain.nil)))))))
     hB ?_
   clear hS; intro a w F hS
   obtain ⟨F, hS⟩ := hS.nm [84, 67, 66, 8, 7, 6, 5, 4] [62, 61, 50, 0] rfl rfl
   try dsimp only [List.map, xD, xE, xT, xU, ldSF, rEdge, rHv] at hS
   refine then_n ?_
   refine cond_b hS rfl (fun hc6 => ?_) (fun hc6 => ?_)
   ·skip
    rw [hst.1] at hc6
    simp at hc6
   refine wp_skip (block_n (then_n ?_))
   refine region_q hS
     (cF rfl (o_add .t (.ci (by kernel_rfl))) r1 trivial
     (cF rfl (oM .t) r1 trivial
     Chain.nil))
     hB ?_
   clear hS; intro a w F hS
   obtain ⟨F, hS⟩ := hS.nm [67, 66, 8, 7, 6, 5, 4] [62, 61, 50, 0] rfl rfl
   try dsimp only [rEdge, rHv] at hS
   refine then_n ?_
   replace hS := hS.ent (i := 67) (s' := .pv (.int .i64 ((i + 1 : Nat) : Int))) rfl (.int (wrap_succ (by omega)))
   obtain ⟨F, hS⟩ := hS.nm [66, 8, 7, 6, 5, 4, 67] [61, 50, 0, 62] rfl rfl
   exact ⟨((i + 1), ((addB bk (Go.Gm.nth dn (dn.length - 1 - i)).edge (Go.Gm.nth dn (dn.length - 1 - i)).cnt).1)), F, ⟨by omega, ⟨(by rw [hdrop] at hst; exact hst.2), (by show (addB bk (Go.Gm.nth dn (dn.length - 1 - i)).edge (Go.Gm.nth dn (dn.length - 1 - i)).cnt).1.length ≤ 60 + (i + 1); have := addB_len hK2.ok (Go.Gm.nth dn (dn.length - 1 - i)).edge (Go.Gm.nth dn (dn.length - 1 - i)).cnt; omega)⟩⟩, hS, by omega⟩
  have hil : i = dn.length := by simp at hc5; omega
  have hbk : decide (bm = bk) = true := by
    refine decide_eq_true (bag_ext hK.ok hK2.ok fun e => ?_)
    rw [hK.cnt, hK2.cnt, hil, Nat.sub_self, List.drop_zero]
  refine wp_exit (then_x (then_x (block_x (then_n (wp_seq (wp_seq ?_))))))
  refine region_q hS
    (cF rfl (oM .t) r1 trivial
    (cF rfl (o_callG1 61 (medges_c b1 bm) Try.func11 rfl (by kernel_rfl) (Args.one .t)) r1 r1
    (cF rfl (oM .t) r1 trivial
    (cF rfl (o_callG1 62 (medges_c b2 bk) Try.func11 rfl (by kernel_rfl) (Args.one .t)) r1 r1
    (cF rfl (oP (sameHv_c bm bk) Try.func12 (Args.two .t .t)) r2 trivial
    (cF rfl (o_not .t) r1 trivial
    Chain.nil))))))
    hB ?_
  clear hS; intro a w F hS
  obtain ⟨F, hS⟩ := hS.nm [91, 8, 7, 5, 4] [62, 61, 50, 0] rfl rfl
  try dsimp only [rEdge, rHv] at hS
  refine then_n ?_
  refine cond_b hS rfl (fun hc7 => ?_) (fun hc7 => ?_)
  ·skip
   rw [hbk] at hc7
   simp at hc7
  refine wp_skip (then_n (wp_seq (wp_seq ?_)))
  refine region_q hS
    (cF rfl (oM .t) r1 trivial
    (cF rfl (o_len_row 50 Try.underlying22 .is) r1 r1
    (cF rfl (oM (.ci (by kernel_rfl))) trivial trivial
    Chain.nil)))
    hB ?_
  clear hS; intro a w F hS
  obtain ⟨F, hS⟩ := hS.nm [94, 93, 92, 7, 5, 4] [62, 61, 50, 0] rfl rfl
  try dsimp only [rEdge, rHv] at hS
  refine then_n (wp_block ?_)
  refine loop_keep (σ := (Nat) × (List HvD)) [4, 5, 7, 92, 93] [0, 50, 62] (fun s => [(94, .pv (.int .i64 (s.1 : Int)))]) (fun s => [(61, RS.hp (mulH (.pointer (some ⟨b1, 0, none⟩)) s.2))]) (fun s => s.1 ≤ dn.length ∧ (BackOk (ofB first) s.2 (dn.drop s.1) ∧ s.2.length ≤ 120 + s.1)) (fun s => dn.length - s.1) ((0), (bm)) hS ⟨rfl, rfl, rfl, rfl, rfl, rfl, trivial⟩ ⟨rfl, rfl, rfl, rfl, trivial⟩ ⟨Nat.zero_le _, ⟨hK, by show bm.length ≤ 120 + 0; omega⟩⟩ ?_
  clear hS; intro s a w F hC hS
  obtain ⟨i, bz⟩ := s
  try dsimp only at hC
  obtain ⟨F, hS⟩ := hS.nm [94, 93, 92, 7, 5, 4] [62, 61, 50, 0] rfl rfl
  try dsimp only at hS
  obtain ⟨hi, hq⟩ := hC
  obtain ⟨hK4, hbl4⟩ := hq
  refine wp_seq ?_
  refine region_q hS
    (cF rfl (o_lss .t .t) r2 trivial
    Chain.nil)
    hB ?_
  clear hS; intro a w F hS
  obtain ⟨F, hS⟩ := hS.nm [95, 94, 93, 92, 7, 5, 4] [62, 61, 50, 0] rfl rfl
  try dsimp only [rEdge, rHv] at hS
  refine then_n (wp_seq ?_)
  refine cond_b hS rfl (fun hc8 => ?_) (fun hc8 => ?_)
  ·skip
   have hil : i < dn.length := by simp at hc8; omega
   have hst := BackOk.pop hB00 (t := dn.drop (i + 1)) (x := (Go.Gm.nth dn i)) (by rw [← drop_nth hil]; exact fun x hx => hD x (List.mem_of_mem_drop hx)) (by rw [← drop_nth hil]; exact hK4)
   refine wp_skip (then_n (wp_seq (wp_block (wp_seq ?_))))
   refine region_q hS
     (cF rfl (o_indexAddr_row (sz := 5) 50 (.mk Try.underlying22 (by kernel_rfl)) .is .t (by omega) (by omega) (by rfl)) r2 r1
     (cF rfl (o_load_row0 (ag := true) (sz' := 5) (sz := 5) 50 .t (by intro x; rfl) (by assumption) (by kernel_rfl) (by kernel_rfl) (by kernel_rfl)) r1 r1
     (cF rfl (oH [.int .i64 0, .int .i64 0, .int .i64 0, .int .i64 0, .int .i64 0] 103) trivial trivial
     (cF rfl (oA 5 103 .same .t) r2 r1
     Chain.nil))))
     hB ?_
   clear hS; intro a w F hS
   replace hS := hS.sub
   obtain ⟨F, hS⟩ := hS.nm [94, 93, 92, 14, 7, 5, 4] [103, 62, 61, 50, 0] rfl rfl
   try dsimp only [RS.sub, SF.sub, CF.sub, csub, Anc.sub, List.map, stCells, xL, xM, Nat.reduceAdd, xD, xE, xT, xU, xC, xN, zCF, ldSF, rEdge, rHv] at hS
   generalize Act.tau a 14 = v14 at hS
   try simp only [Int.toNat_natCast] at hS
   refine then_n (wp_seq ?_)
   refine region_q hS
     (cF rfl (oM .t) r1 trivial
     (cF rfl (oF 0 103 .is) r1 r1
     (cF rfl (oL true 4 103 .adr) r1 r1
     (cF rfl (oF 4 103 .is) r1 r1
     (cF rfl (oL false 1 103 .adr) r1 r1
     (cF rfl (o_neg .t) r1 trivial
     (cF rfl (o_callG1 61 (madd_c b1 bz (Go.Gm.nth dn i).edge (-(Go.Gm.nth dn i).cnt) (by omega)) Try.func10 rfl (by kernel_rfl) (Args.three .t (.pagg .t) (.conv .t (Ent.int (by have := (hD _ (nth_mem hil)).1; have := (hD _ (nth_mem hil)).2.1; rw [wrap_i64 (by omega)]; omega))))) r3 r1
     (cF rfl (o_neq .t (.ci (by kernel_rfl))) r1 trivial
     Chain.nil))))))))
     hB ?_
   clear hS; intro a w F hS
   obtain ⟨F, hS⟩ := hS.nm [105, 94, 93, 92, 7, 5, 4] [62, 61, 50, 0] rfl rfl
   try dsimp only [List.map, xD, xE, xT, xU, ldSF, rEdge, rHv] at hS
   refine then_n ?_
   refine cond_b hS rfl (fun hc9 => ?_) (fun hc9 => ?_)
   ·skip
    rw [hst.1] at hc9
    simp at hc9
   refine wp_skip (block_n (then_n ?_))
   refine region_q hS
     (cF rfl (o_add .t (.ci (by kernel_rfl))) r1 trivial
     (cF rfl (oM .t) r1 trivial
     Chain.nil))
     hB ?_
   clear hS; intro a w F hS
   obtain ⟨F, hS⟩ := hS.nm [94, 93, 92, 7, 5, 4] [62, 61, 50, 0] rfl rfl
   try dsimp only [rEdge, rHv] at hS
   refine then_n ?_
   replace hS := hS.ent (i := 94) (s' := .pv (.int .i64 ((i + 1 : Nat) : Int))) rfl (.int (wrap_succ (by omega)))
   obtain ⟨F, hS⟩ := hS.nm [93, 92, 7, 5, 4, 94] [62, 50, 0, 61] rfl rfl
   exact ⟨((i + 1), ((addB bz (Go.Gm.nth dn i).edge (-(Go.Gm.nth dn i).cnt)).1)), F, ⟨by omega, ⟨hst.2, (by show (addB bz (Go.Gm.nth dn i).edge (-(Go.Gm.nth dn i).cnt)).1.length ≤ 120 + (i + 1); have := addB_len hK4.ok (Go.Gm.nth dn i).edge (-(Go.Gm.nth dn i).cnt); omega)⟩⟩, hS, by omega⟩
  have hil : i = dn.length := by simp at hc8; omega
  have hz : bz = (ofB first) := bag_ext hK4.ok hB00 fun e => by rw [hK4.cnt, hil, List.drop_length]; simp [sumE]
  refine wp_exit (then_x (then_x (block_x (then_n (wp_seq ?_)))))
  refine region_q hS
    (cF rfl (oM .t) r1 trivial
    (cF rfl (o_callG1 61 (medges_c b1 bz) Try.func11 rfl (by kernel_rfl) (Args.one .t)) r1 r1
    (cF rfl (oM .t) r1 trivial
    (cF rfl (oP (sameHv_c bz (ofB first)) Try.func12 (Args.two .t .t)) r2 trivial
    (cF rfl (oN .t) r1 trivial
    Chain.nil)))))
    hB ?_
  clear hS; intro a w F hS
  obtain ⟨F, hS⟩ := hS.nm [4] [62, 61, 50, 0] rfl rfl
  try dsimp only [rEdge, rHv] at hS
  rw [decide_eq_true hz] at hS
  refine then_n (wp_ret ?_)
  refine ret_P hfr hS rfl (.tmp rfl .nil) (.one (.bool (by first | rfl | simp)))

end Go.Proofs.Ytfdjjfplhdpclaa
