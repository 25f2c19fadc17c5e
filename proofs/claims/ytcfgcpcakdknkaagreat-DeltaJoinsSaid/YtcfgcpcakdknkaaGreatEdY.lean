/- EdA, EdB, EdC, EdD, EdE, EdF, in one text. -/
import Derived.Test.YtcfgcpcakdknkaaGreatEdX
import Derived.Test.YtcfgcpcakdknkaaGreatHiX
import Derived.Test.YtcfgcpcakdknkaaGreatOrX
import Derived.Test.YtcfgcpcakdknkaaGreatTxX
import Derived.Test.YtcfgcpcakdknkaaGreatHiL
import Derived.Test.YtcfgcpcakdknkaaGreatOr2
import Derived.Test.YtcfgcpcakdknkaaGreatDaX
namespace Go.Proofs.YtcfgcpcakdknkaaGreat
open Go Go.Gm
set_option linter.unusedVariables false
set_option linter.unusedSimpArgs false
set_option maxHeartbeats 4000000
set_option maxRecDepth 8000

theorem find_is {l : List TxD} {id : Int} : (findT l id).isSome = isK TxD.id id l := by
  unfold findT isK
  rw [Bool.eq_iff_iff, List.find?_isSome, List.any_eq_true]
theorem right_ne {g : HistD} (h : RightH g) : NE g.orders := fun o ho => by
  have h2 := (ord_same g).2 h.2.2
  obtain ⟨j, hj, e⟩ := List.getElem_of_mem ho
  have := (h2.2 j hj).2.1
  rwa [nth_eq hj, e] at this
theorem get_is {os : List OrdD} {k : Int} (hr : Rise OrdD.key os) (h : isK OrdD.key k os = true) : getO os k = (Go.Gm.nth os (lowK OrdD.key k os)).txs := by
  obtain ⟨h1, h2⟩ := isK_low hr h
  have := getO_mem (rise_iff.1 hr) (nth_mem h1)
  rwa [h2] at this
theorem get_nil {os : List OrdD} {k : Int} (hr : Rise OrdD.key os) (hn : NE os) : getO os k = [] ↔ isK OrdD.key k os = false := by
  constructor
  · intro h
    cases hk : isK OrdD.key k os with
    | false => rfl
    | true =>
      rw [get_is hr hk] at h
      exact absurd h (hn _ (nth_mem (isK_low hr hk).1))
  · exact isK_get
theorem turn_1 {g : HistD} {key : Int} {rule : List Int → List Int × Int} (h : ¬ RightH g) : turnedH g key rule = (zeroH, 5) := if_pos h
theorem turn_2 {g : HistD} {key : Int} {rule : List Int → List Int × Int} (h : RightH g) (h2 : getO g.orders key = []) : turnedH g key rule = (zeroH, 3) := by
  unfold turnedH
  rw [if_neg (Decidable.not_not.2 h), if_pos ((get_nil (right_rise h).2 (right_ne h)).1 h2)]
theorem turn_is {g : HistD} {key : Int} (h : RightH g) (h2 : getO g.orders key ≠ []) : isK OrdD.key key g.orders = true := by
  cases hk : isK OrdD.key key g.orders with
  | true => rfl
  | false => exact absurd ((get_nil (right_rise h).2 (right_ne h)).2 hk) h2
theorem turn_3 {g : HistD} {key : Int} {rule : List Int → List Int × Int} (h : RightH g) (h2 : getO g.orders key ≠ []) (h3 : (rule (getO g.orders key)).2 ≠ 0) : turnedH g key rule = (zeroH, (rule (getO g.orders key)).2) := by
  have hk := turn_is h h2
  have hg := get_is (right_rise h).2 hk
  unfold turnedH
  rw [if_neg (Decidable.not_not.2 h), if_neg (by simp [hk]), ← hg, if_pos h3]
theorem turn_4 {g : HistD} {key : Int} {rule : List Int → List Int × Int} (h : RightH g) (h2 : getO g.orders key ≠ []) (h3 : (rule (getO g.orders key)).2 = 0) (h4 : (rule (getO g.orders key)).1 ≠ []) : turnedH g key rule = (⟨g.txs, putGR OrdD.key ⟨key, (rule (getO g.orders key)).1⟩ g.orders (decide ((rule (getO g.orders key)).1 = []))⟩, 0) := by
  have hk := turn_is h h2
  have hr := (right_rise h).2
  have hg := get_is hr hk
  unfold turnedH
  rw [if_neg (Decidable.not_not.2 h), if_neg (by simp [hk]), ← hg, if_neg (by simp [h3]), decide_eq_false h4, putGR_old (κ := OrdD.key) (t := ⟨key, (rule (getO g.orders key)).1⟩) (rise_iff.1 hr) hk, (isK_low hr hk).2]
theorem move_perm {l : List Int} {id place : Int} (h : (moveO l id place).2 = 0) : (moveO l id place).1.Perm l := by
  have h9 := h
  unfold moveO at h9
  split at h9
  · simp at h9
  · rename_i h1
    split at h9
    · simp at h9
    · rename_i h2
      refine moveO_perm ?_ (Decidable.not_not.1 h2)
      refine Decidable.byContradiction fun hm => h1 ?_
      rw [idxL_not hm]; decide
/-- An edit. -/
structure EdD where
  kind : Int
  t : TxD
  o : OrdD
  place : Int
  deriving DecidableEq, Inhabited
def doH (g : HistD) (e : EdD) : HistD × Int := if e.kind = 0 then insertH g e.t else if e.kind = 1 then deleteH g e.t.id else if e.kind = 2 then amendH g e.t else if e.kind = 3 then reorderH g e.o else if e.kind = 4 then moveH g e.o.key e.t.id e.place else (zeroH, 5)
def lightE (e : EdD) : Prop := e.t.ops.length ≤ 24 ∧ e.o.txs.length ≤ 24
instance (e : EdD) : Decidable (lightE e) := by unfold lightE; exact inferInstance
def lightL (l : List EdD) : Prop := l.length ≤ 24 ∧ ∀ e ∈ l, lightE e
instance (l : List EdD) : Decidable (lightL l) := by unfold lightL; exact inferInstance
def playStep (g : HistD) (e : EdD) : HistD := if (doH g e).2 = 0 then (doH g e).1 else g
end Go.Proofs.YtcfgcpcakdknkaaGreat
namespace Go.Proofs.YtcfgcpcakdknkaaGreat
open Go Go.Gm
set_option linter.unusedVariables false
set_option linter.unusedSimpArgs false
set_option maxHeartbeats 4000000
set_option maxRecDepth 8000

/-- Histories that edits make are small. -/
def Fit (n : Nat) (g : HistD) : Prop := (g.txs.length ≤ n ∧ ∀ t ∈ g.txs, t.ops.length ≤ 24) ∧ g.orders.length ≤ 24 * n ∧ ∀ o ∈ g.orders, o.txs.length ≤ n
theorem Fit.small {n : Nat} {g : HistD} (h : Fit n g) (hn : n ≤ 30) : Small g := by
  obtain ⟨⟨h1, h2⟩, h3, h4⟩ := h
  exact ⟨⟨by omega, fun t ht => by have := h2 t ht; omega⟩, by omega, fun o ho => by have := h4 o ho; omega⟩
theorem Fit.zero : Fit 0 zeroH := ⟨⟨by simp [zeroH], fun t ht => by cases ht⟩, by simp [zeroH], fun o ho => by cases ho⟩
theorem Fit.up {n : Nat} {g : HistD} (h : Fit n g) : Fit (n + 1) g := ⟨⟨by have := h.1.1; omega, h.1.2⟩, by have := h.2.1; omega, fun o ho => by have := h.2.2 o ho; omega⟩
theorem Fit.none {n : Nat} : Fit n zeroH := by
  induction n with
  | zero => exact Fit.zero
  | succ n ih => exact ih.up
theorem insK_mem2 {os : List OrdD} {ks : List Int} {t : TxD} {o : OrdD} (h : o ∈ insS t os ks) : o ∈ os ∨ o.txs = [] := by
  unfold insS at h
  split at h
  · have key : ∀ (ks : List Int) (os : List OrdD), o ∈ ks.foldl insK os → o ∈ os ∨ o.txs = [] := by
      intro ks
      induction ks with
      | nil => intro os h; exact .inl h
      | cons k ks ih =>
        intro os h
        rcases ih _ h with h | h
        · rcases insK_mem h with h | h
          · exact .inl h
          · exact .inr (by rw [h])
        · exact .inr h
    exact key ks os h
  · exact .inl h
theorem settle_fit {n : Nat} {t : TxD} {os : List OrdD} (ht : t.ops.length ≤ 24) (h1 : os.length ≤ 24 * n) (h2 : ∀ o ∈ os, o.txs.length ≤ n) : (settleO t os).length ≤ 24 * (n + 1) ∧ ∀ o ∈ settleO t os, o.txs.length ≤ n + 1 := by
  have hk := keysT_len t
  have hl : (insS t os (keysT t)).length ≤ os.length + (keysT t).length := by
    unfold insS
    split
    · have key : ∀ (ks : List Int) (os : List OrdD), (ks.foldl insK os).length ≤ os.length + ks.length := by
        intro ks
        induction ks with
        | nil => intro os; simp
        | cons k ks ih => intro os; have h1 := ih (insK os k); have h2 := insK_len os k; rw [List.foldl_cons, List.length_cons]; omega
      exact key _ _
    · omega
  unfold settleO
  refine ⟨Nat.le_trans (List.length_filter_le _ _) (by rw [List.length_map]; omega), fun o ho => ?_⟩
  obtain ⟨o', ho', e⟩ := List.mem_map.1 (List.mem_filter.1 ho).1
  have hlen : o'.txs.length ≤ n := by
    rcases insK_mem2 ho' with h | h
    · exact h2 o' h
    · rw [h]; simp
  rw [← e]
  unfold ordF
  show (if _ then _ else _ : List Int).length ≤ _
  split
  · unfold withO; split
    · omega
    · simp; omega
  · unfold withoutO
    exact Nat.le_trans (List.length_filter_le _ _) (by omega)
theorem turned_fit {n : Nat} {g : HistD} {key : Int} {rule : List Int → List Int × Int} (hr : ∀ l, (rule l).2 = 0 → (rule l).1.length ≤ l.length) (h : Fit n g) : Fit n (turnedH g key rule).1 := by
  unfold turnedH
  split
  · exact Fit.none
  · split
    · exact Fit.none
    · split
      · exact Fit.none
      · rename_i h1 h2 h3
        refine ⟨h.1, by show (List.set _ _ _).length ≤ _; rw [List.length_set]; exact h.2.1, fun o ho => ?_⟩
        rcases List.mem_or_eq_of_mem_set ho with h4 | h4
        · exact h.2.2 o h4
        · have hk : isK OrdD.key key g.orders = true := by simpa using h2
          have hlt := (isK_low (right_rise (Decidable.not_not.1 h1)).2 hk).1
          have := hr _ (Decidable.not_not.1 h3)
          have := h.2.2 _ (nth_mem hlt)
          rw [h4]; show (rule _).1.length ≤ n; omega
theorem Fit.doH {n : Nat} {g : HistD} {e : EdD} (h : Fit n g) (he : lightE e) : Fit (n + 1) (doH g e).1 := by
  have hset : ∀ t : TxD, t.ops.length ≤ 24 → ∀ txs : List TxD, txs.length ≤ n + 1 → (∀ t ∈ txs, t.ops.length ≤ 24) → Fit (n + 1) ⟨txs, settleO t g.orders⟩ := fun t ht txs h1 h2 => by
    obtain ⟨h3, h4⟩ := settle_fit ht h.2.1 h.2.2
    exact ⟨⟨h1, h2⟩, h3, h4⟩
  unfold Go.Proofs.YtcfgcpcakdknkaaGreat.doH
  split
  · unfold insertH
    split
    · exact Fit.none
    · split
      · exact Fit.none
      · refine hset _ he.1 _ ?_ fun t ht => ?_
        · have := h.1.1; rw [List.length_append, List.length_append, List.length_take, List.length_drop]; simp; omega
        · rw [List.mem_append, List.mem_append] at ht
          rcases ht with (ht | ht) | ht
          · exact h.1.2 t (List.mem_of_mem_take ht)
          · rw [List.mem_singleton.1 ht]; exact he.1
          · exact h.1.2 t (List.mem_of_mem_drop ht)
  · split
    · unfold deleteH
      split
      · exact Fit.none
      · split
        · exact Fit.none
        · split
          · exact Fit.none
          · refine hset _ (by simp [noneT]) _ ?_ fun t ht => ?_
            · have := h.1.1; rw [List.length_append, List.length_take, List.length_drop]; omega
            · rw [List.mem_append] at ht
              rcases ht with ht | ht
              · exact h.1.2 t (List.mem_of_mem_take ht)
              · exact h.1.2 t (List.mem_of_mem_drop ht)
    · split
      · unfold amendH
        split
        · exact Fit.none
        · split
          · exact Fit.none
          · refine hset _ he.1 _ ?_ fun t ht => ?_
            · have := h.1.1; rw [List.length_set]; omega
            · rcases List.mem_or_eq_of_mem_set ht with ht | ht
              · exact h.1.2 t ht
              · rw [ht]; exact he.1
      · split
        · refine (turned_fit (fun l h0 => ?_) h).up
          unfold ruleR at h0 ⊢
          split at h0
          · rename_i hp; rw [if_pos hp, hp.length_eq]; exact Nat.le_refl _
          · simp at h0
        · split
          · exact (turned_fit (fun l h0 => by show (moveO l _ _).1.length ≤ _; exact moveO_len _ _ _) h).up
          · exact Fit.none
theorem Fit.step {n : Nat} {g : HistD} {e : EdD} (h : Fit n g) (he : lightE e) : Fit (n + 1) (playStep g e) := by
  unfold playStep
  split
  · exact h.doH he
  · exact h.up
end Go.Proofs.YtcfgcpcakdknkaaGreat
namespace Go.Proofs.YtcfgcpcakdknkaaGreat
open Go Go.Gm
set_option linter.unusedVariables false
set_option linter.unusedSimpArgs false
set_option maxHeartbeats 4000000
set_option maxRecDepth 8000

theorem eqT_c (x y : List TxD) (f : FuncId) (fn : Func) (cps : List PV) (hf : Tryz.prog.funcs[f]? = some fn) (hb : fn.body.isSome = true) (hnn : (fn.name == "runtime.NumGoroutine") = false) (hw : ∀ u v : TxD, FnP Tryz.prog f (.agg (rTx u) :: .agg (rTx v) :: cps) (.bool (decide (u = v)))) : FnP Tryz.prog 85 [.sl rTx x, .sl rTx y, .clos f cps] (.bool (decide (x = y))) := by
  refine FnP.mk Tryz.func85 rfl Tryz.ntmps85 rfl ?_
  intro B a w F hB hfr hS
  have hxl := Sat.lenSl hS (i := 0) rfl
  refine wp_seq ?_
  refine region_z hS (qf (oN .cb) trivial qz qZ) hB [6, 2, 1, 0] [0] rfl rfl ?_
  clear hS; intro a w F hS
  refine then_n (wp_seq (wp_seq ?_))
  refine region_z hS (qM rfl rfl (qf (o_len_sl Tryz.underlying27 .t) r1 qz (qM rfl rfl (qf (o_len_sl Tryz.underlying27 .t) r1 qz (qf (o_neq .t .t) r2 qz qZ))))) hB [14, 6, 2, 1, 0] [0] rfl rfl ?_
  clear hS; intro a w F hS
  refine then_n ?_
  refine cond_b hS rfl (fun hc0 => ?_) (fun hc0 => ?_)
  ·skip
   have hg : false = decide (x = y) := (decide_eq_false fun e => by subst e; simp at hc0).symm
   refine wp_seq ?_
   refine region_z hS (qf (oN .cb) trivial qz qZ) hB [6, 2, 1, 0] [0] rfl rfl ?_
   clear hS; intro a w F hS
   refine then_n (wp_ret (then_r ?_))
   refine ret_P hfr hS rfl (.tmp rfl .nil) (.one (.bool hg))
  have hln : x.length = y.length := by simp at hc0; omega
  refine wp_skip (then_n (wp_seq (wp_seq ?_)))
  refine region_z hS (qM rfl rfl (qf (o_len_sl Tryz.underlying27 .t) r1 qz (qf (oM qi) trivial qz qZ))) hB [17, 16, 15, 6, 2, 1] [0] rfl rfl ?_
  clear hS; intro a w F hS
  refine then_n (wp_block ?_)
  refine loop_keep (σ := (Nat)) [1, 2, 6, 15, 16] [0] (fun s => [(17, .pv (.int .i64 (s : Int)))]) (fun s => []) (fun s => s ≤ x.length ∧ (∀ q, q < s → Go.Gm.nth x q = Go.Gm.nth y q)) (fun s => x.length - s) (0) hS ⟨rfl, rfl, rfl, rfl, rfl, rfl, trivial⟩ ⟨rfl, trivial⟩ ⟨Nat.zero_le _, fun q hq => absurd hq (Nat.not_lt_zero q)⟩ ?_
  clear hS; intro i a w F hC hS
  try dsimp only at hC
  obtain ⟨F, hS⟩ := hS.nm [17, 16, 15, 6, 2, 1] [0] rfl rfl
  try dsimp only at hS
  obtain ⟨hi, hq⟩ := hC
  refine wp_seq ?_
  refine region_z hS (qf (o_lss .t .t) r2 qz qZ) hB [18, 17, 16, 15, 6, 2, 1] [0] rfl rfl ?_
  clear hS; intro a w F hS
  refine then_n (wp_seq ?_)
  refine cond_b hS rfl (fun hc1 => ?_) (fun hc1 => ?_)
  ·skip
   have hil : i < x.length := by simp at hc1; omega
   refine wp_skip (then_n (wp_seq (wp_block (wp_seq ?_))))
   refine region_q hS (qM rfl rfl (qf (o_indexAddr_sl (sz := 3) (.mk Tryz.underlying27 (by kernel_rfl)) (by intro x; rfl) .t .t (by omega) (by omega)) r2 qz (qf (oR true 3 .t) r1 qz (qf (oH [.int .i64 0, .bool false, .slice none 0 0] 101) trivial qz (qN rfl rfl (qf (oA 3 101 .same .t) r2 r1 qZ)))))) hB ?_
   clear hS; intro a w F hS
   replace hS := hS.sub
   obtain ⟨F, hS⟩ := hS.nm [21, 20, 19, 18, 17, 16, 15, 8, 7, 6, 2, 1] [101, 0] rfl rfl
   try dsimp only [RS.sub, SF.sub, CF.sub, csub, Anc.sub, List.map, stCells, xL, xM, Nat.reduceAdd, xD, xE, xT, xU, xC, xN, zCF, ldSF, rTx] at hS
   generalize Act.tau a 8 = v8 at hS
   try simp only [Int.toNat_natCast] at hS
   refine then_n (wp_seq ?_)
   refine region_q hS (qM rfl rfl (qM rfl rfl (qf (o_indexAddr_sl (sz := 3) (.mk Tryz.underlying27 (by kernel_rfl)) (by intro x; rfl) .t .t (by omega) (by omega)) r2 qz (qf (oR true 3 .t) r1 qz (qf (oH [.int .i64 0, .bool false, .slice none 0 0] 102) trivial qz (qf (oA 3 102 .same .t) r2 r1 qZ)))))) hB ?_
   clear hS; intro a w F hS
   replace hS := hS.sub
   obtain ⟨F, hS⟩ := hS.nm [25, 24, 23, 22, 21, 20, 19, 18, 17, 16, 15, 9, 8, 7, 6, 2, 1] [102, 101, 0] rfl rfl
   try dsimp only [RS.sub, SF.sub, CF.sub, csub, Anc.sub, List.map, stCells, xL, xM, Nat.reduceAdd, xD, xE, xT, xU, xC, xN, zCF, ldSF, rTx] at hS
   generalize Act.tau a 9 = v9 at hS
   try simp only [Int.toNat_natCast] at hS
   refine then_n (wp_seq ?_)
   refine region_z hS (qM rfl rfl (qf (oL true 3 101 .is) r1 r1 (qf (oL true 3 102 .is) r1 r1 (qf (o_callClosP (avs := [.agg (rTx (Go.Gm.nth x i)), .agg (rTx (Go.Gm.nth y i))]) .t (hw (Go.Gm.nth x i) (Go.Gm.nth y i)) hf hb hnn (Args.two (.pagg .t) (.pagg .t))) r3 qz (qf (o_not .t) r1 qz qZ))))) hB [30, 29, 28, 27, 26, 25, 24, 23, 22, 21, 20, 19, 18, 17, 16, 15, 9, 8, 7, 6, 2, 1] [102, 101, 0] rfl rfl ?_
   clear hS; intro a w F hS
   refine then_n ?_
   refine cond_b hS rfl (fun hc2 => ?_) (fun hc2 => ?_)
   ·skip
    have hg : false = decide (x = y) := (decide_eq_false fun e => by subst e; simp at hc2).symm
    refine wp_seq ?_
    refine region_z hS (qf (oN .cb) trivial qz qZ) hB [30, 29, 28, 27, 26, 25, 24, 23, 22, 21, 20, 19, 18, 17, 16, 15, 9, 8, 7, 6, 2, 1] [102, 101, 0] rfl rfl ?_
    clear hS; intro a w F hS
    refine then_n (wp_ret (block_r (then_r (then_r (block_r (then_r ?_))))))
    refine ret_P hfr hS rfl (.tmp rfl .nil) (.one (.bool hg))
   have hne : (Go.Gm.nth x i) = (Go.Gm.nth y i) := by simpa using hc2
   refine wp_skip (block_n (then_n ?_))
   refine region_z hS (qf (o_add .t qi) r1 qz (qM rfl rfl qZ)) hB [31, 30, 29, 28, 27, 26, 25, 24, 23, 22, 21, 20, 19, 18, 17, 16, 15, 9, 8, 7, 6, 2, 1] [102, 101, 0] rfl rfl ?_
   clear hS; intro a w F hS
   refine then_n ?_
   replace hS := hS.ent (i := 17) (s' := .pv (.int .i64 ((i + 1 : Nat) : Int))) rfl (.int (wrap_succ (by omega)))
   obtain ⟨F, hS⟩ := hS.nm [16, 15, 6, 2, 1, 17] [0] rfl rfl
   exact ⟨(i + 1), F, ⟨by omega, (fun q h9 => by rcases Nat.lt_or_eq_of_le (Nat.le_of_lt_succ h9) with h8 | h8; exact hq q h8; rw [h8]; exact hne)⟩, hS, by omega⟩
  have hil : i = x.length := by simp at hc1; omega
  have hg : true = decide (x = y) := (decide_eq_true (list_same hln fun j hj => hq j (by omega))).symm
  refine wp_exit (then_x (then_x (block_x (then_n (wp_seq ?_)))))
  refine region_z hS (qf (oN .cb) trivial qz qZ) hB [6] [0] rfl rfl ?_
  clear hS; intro a w F hS
  refine then_n (wp_ret ?_)
  refine ret_P hfr hS rfl (.tmp rfl .nil) (.one (.bool hg))

theorem eqR_c (x y : List OrdD) (f : FuncId) (fn : Func) (cps : List PV) (hf : Tryz.prog.funcs[f]? = some fn) (hb : fn.body.isSome = true) (hnn : (fn.name == "runtime.NumGoroutine") = false) (hw : ∀ u v : OrdD, FnP Tryz.prog f (.agg (rOrd u) :: .agg (rOrd v) :: cps) (.bool (decide (u = v)))) : FnP Tryz.prog 86 [.sl rOrd x, .sl rOrd y, .clos f cps] (.bool (decide (x = y))) := by
  refine FnP.mk Tryz.func86 rfl Tryz.ntmps86 rfl ?_
  intro B a w F hB hfr hS
  have hxl := Sat.lenSl hS (i := 0) rfl
  refine wp_seq ?_
  refine region_z hS (qf (oN .cb) trivial qz qZ) hB [6, 2, 1, 0] [0] rfl rfl ?_
  clear hS; intro a w F hS
  refine then_n (wp_seq (wp_seq ?_))
  refine region_z hS (qM rfl rfl (qf (o_len_sl Tryz.underlying28 .t) r1 qz (qM rfl rfl (qf (o_len_sl Tryz.underlying28 .t) r1 qz (qf (o_neq .t .t) r2 qz qZ))))) hB [14, 6, 2, 1, 0] [0] rfl rfl ?_
  clear hS; intro a w F hS
  refine then_n ?_
  refine cond_b hS rfl (fun hc0 => ?_) (fun hc0 => ?_)
  ·skip
   have hg : false = decide (x = y) := (decide_eq_false fun e => by subst e; simp at hc0).symm
   refine wp_seq ?_
   refine region_z hS (qf (oN .cb) trivial qz qZ) hB [6, 2, 1, 0] [0] rfl rfl ?_
   clear hS; intro a w F hS
   refine then_n (wp_ret (then_r ?_))
   refine ret_P hfr hS rfl (.tmp rfl .nil) (.one (.bool hg))
  have hln : x.length = y.length := by simp at hc0; omega
  refine wp_skip (then_n (wp_seq (wp_seq ?_)))
  refine region_z hS (qM rfl rfl (qf (o_len_sl Tryz.underlying28 .t) r1 qz (qf (oM qi) trivial qz qZ))) hB [17, 16, 15, 6, 2, 1] [0] rfl rfl ?_
  clear hS; intro a w F hS
  refine then_n (wp_block ?_)
  refine loop_keep (σ := (Nat)) [1, 2, 6, 15, 16] [0] (fun s => [(17, .pv (.int .i64 (s : Int)))]) (fun s => []) (fun s => s ≤ x.length ∧ (∀ q, q < s → Go.Gm.nth x q = Go.Gm.nth y q)) (fun s => x.length - s) (0) hS ⟨rfl, rfl, rfl, rfl, rfl, rfl, trivial⟩ ⟨rfl, trivial⟩ ⟨Nat.zero_le _, fun q hq => absurd hq (Nat.not_lt_zero q)⟩ ?_
  clear hS; intro i a w F hC hS
  try dsimp only at hC
  obtain ⟨F, hS⟩ := hS.nm [17, 16, 15, 6, 2, 1] [0] rfl rfl
  try dsimp only at hS
  obtain ⟨hi, hq⟩ := hC
  refine wp_seq ?_
  refine region_z hS (qf (o_lss .t .t) r2 qz qZ) hB [18, 17, 16, 15, 6, 2, 1] [0] rfl rfl ?_
  clear hS; intro a w F hS
  refine then_n (wp_seq ?_)
  refine cond_b hS rfl (fun hc1 => ?_) (fun hc1 => ?_)
  ·skip
   have hil : i < x.length := by simp at hc1; omega
   refine wp_skip (then_n (wp_seq (wp_block (wp_seq ?_))))
   refine region_q hS (qM rfl rfl (qf (o_indexAddr_sl (sz := 2) (.mk Tryz.underlying28 (by kernel_rfl)) (by intro x; rfl) .t .t (by omega) (by omega)) r2 qz (qf (oR true 2 .t) r1 qz (qf (oH [.int .i64 0, .slice none 0 0] 101) trivial qz (qN rfl rfl (qf (oA 2 101 .same .t) r2 r1 qZ)))))) hB ?_
   clear hS; intro a w F hS
   replace hS := hS.sub
   obtain ⟨F, hS⟩ := hS.nm [21, 20, 19, 18, 17, 16, 15, 8, 7, 6, 2, 1] [101, 0] rfl rfl
   try dsimp only [RS.sub, SF.sub, CF.sub, csub, Anc.sub, List.map, stCells, xL, xM, Nat.reduceAdd, xD, xE, xT, xU, xC, xN, zCF, ldSF, rOrd] at hS
   generalize Act.tau a 8 = v8 at hS
   try simp only [Int.toNat_natCast] at hS
   refine then_n (wp_seq ?_)
   refine region_q hS (qM rfl rfl (qM rfl rfl (qf (o_indexAddr_sl (sz := 2) (.mk Tryz.underlying28 (by kernel_rfl)) (by intro x; rfl) .t .t (by omega) (by omega)) r2 qz (qf (oR true 2 .t) r1 qz (qf (oH [.int .i64 0, .slice none 0 0] 102) trivial qz (qf (oA 2 102 .same .t) r2 r1 qZ)))))) hB ?_
   clear hS; intro a w F hS
   replace hS := hS.sub
   obtain ⟨F, hS⟩ := hS.nm [25, 24, 23, 22, 21, 20, 19, 18, 17, 16, 15, 9, 8, 7, 6, 2, 1] [102, 101, 0] rfl rfl
   try dsimp only [RS.sub, SF.sub, CF.sub, csub, Anc.sub, List.map, stCells, xL, xM, Nat.reduceAdd, xD, xE, xT, xU, xC, xN, zCF, ldSF, rOrd] at hS
   generalize Act.tau a 9 = v9 at hS
   try simp only [Int.toNat_natCast] at hS
   refine then_n (wp_seq ?_)
   refine region_z hS (qM rfl rfl (qf (oL true 2 101 .is) r1 r1 (qf (oL true 2 102 .is) r1 r1 (qf (o_callClosP (avs := [.agg (rOrd (Go.Gm.nth x i)), .agg (rOrd (Go.Gm.nth y i))]) .t (hw (Go.Gm.nth x i) (Go.Gm.nth y i)) hf hb hnn (Args.two (.pagg .t) (.pagg .t))) r3 qz (qf (o_not .t) r1 qz qZ))))) hB [30, 29, 28, 27, 26, 25, 24, 23, 22, 21, 20, 19, 18, 17, 16, 15, 9, 8, 7, 6, 2, 1] [102, 101, 0] rfl rfl ?_
   clear hS; intro a w F hS
   refine then_n ?_
   refine cond_b hS rfl (fun hc2 => ?_) (fun hc2 => ?_)
   ·skip
    have hg : false = decide (x = y) := (decide_eq_false fun e => by subst e; simp at hc2).symm
    refine wp_seq ?_
    refine region_z hS (qf (oN .cb) trivial qz qZ) hB [30, 29, 28, 27, 26, 25, 24, 23, 22, 21, 20, 19, 18, 17, 16, 15, 9, 8, 7, 6, 2, 1] [102, 101, 0] rfl rfl ?_
    clear hS; intro a w F hS
    refine then_n (wp_ret (block_r (then_r (then_r (block_r (then_r ?_))))))
    refine ret_P hfr hS rfl (.tmp rfl .nil) (.one (.bool hg))
   have hne : (Go.Gm.nth x i) = (Go.Gm.nth y i) := by simpa using hc2
   refine wp_skip (block_n (then_n ?_))
   refine region_z hS (qf (o_add .t qi) r1 qz (qM rfl rfl qZ)) hB [31, 30, 29, 28, 27, 26, 25, 24, 23, 22, 21, 20, 19, 18, 17, 16, 15, 9, 8, 7, 6, 2, 1] [102, 101, 0] rfl rfl ?_
   clear hS; intro a w F hS
   refine then_n ?_
   replace hS := hS.ent (i := 17) (s' := .pv (.int .i64 ((i + 1 : Nat) : Int))) rfl (.int (wrap_succ (by omega)))
   obtain ⟨F, hS⟩ := hS.nm [16, 15, 6, 2, 1, 17] [0] rfl rfl
   exact ⟨(i + 1), F, ⟨by omega, (fun q h9 => by rcases Nat.lt_or_eq_of_le (Nat.le_of_lt_succ h9) with h8 | h8; exact hq q h8; rw [h8]; exact hne)⟩, hS, by omega⟩
  have hil : i = x.length := by simp at hc1; omega
  have hg : true = decide (x = y) := (decide_eq_true (list_same hln fun j hj => hq j (by omega))).symm
  refine wp_exit (then_x (then_x (block_x (then_n (wp_seq ?_)))))
  refine region_z hS (qf (oN .cb) trivial qz qZ) hB [6] [0] rfl rfl ?_
  clear hS; intro a w F hS
  refine then_n (wp_ret ?_)
  refine ret_P hfr hS rfl (.tmp rfl .nil) (.one (.bool hg))


end Go.Proofs.YtcfgcpcakdknkaaGreat
namespace Go.Proofs.YtcfgcpcakdknkaaGreat
open Go Go.Gm
set_option linter.unusedVariables false
set_option linter.unusedSimpArgs false
set_option maxHeartbeats 4000000
set_option maxRecDepth 8000

instance (l : List TxD) : Decidable (SmallT l) := by unfold SmallT; exact inferInstance
instance (l : List OrdD) : Decidable (SmallO l) := by unfold SmallO; exact inferInstance
instance (g : HistD) : Decidable (Small g) := by unfold Small; exact inferInstance

end Go.Proofs.YtcfgcpcakdknkaaGreat
namespace Go.Proofs.YtcfgcpcakdknkaaGreat
open Go Go.Gm
set_option linter.unusedVariables false
set_option linter.unusedSimpArgs false
set_option maxHeartbeats 4000000
set_option maxRecDepth 8000



end Go.Proofs.YtcfgcpcakdknkaaGreat
namespace Go.Proofs.YtcfgcpcakdknkaaGreat
open Go Go.Gm
set_option linter.unusedVariables false
set_option linter.unusedSimpArgs false
set_option maxHeartbeats 4000000
set_option maxRecDepth 8000

theorem writers_mem {l : List TxD} {k x : Int} : x ∈ writersH l k ↔ ∃ t ∈ l, t.id = x ∧ t.done = true ∧ 0 < wcnt t.ops k := by
  unfold writersH
  rw [List.mem_map]
  constructor
  · rintro ⟨t, ht, e⟩
    rw [List.mem_filter] at ht
    simp at ht
    exact ⟨t, ht.1, e, ht.2.1, ht.2.2⟩
  · rintro ⟨t, ht, e, h1, h2⟩
    exact ⟨t, by rw [List.mem_filter]; simp [ht, h1, h2], e⟩
theorem writers_nodup {l : List TxD} (h : Rise TxD.id l) (k : Int) : (writersH l k).Nodup := by
  unfold writersH
  have h1 : (l.map TxD.id).Nodup := (List.pairwise_map.2 (rise_iff.1 h)).imp fun h => Int.ne_of_lt h
  exact (h1.sublist ((List.filter_sublist).map _))
theorem find_mem {l : List TxD} (h : Rise TxD.id l) {t : TxD} (ht : t ∈ l) : findT l t.id = some t := by
  have h := rise_iff.1 h
  induction l with
  | nil => cases ht
  | cons x l ih =>
    rw [List.pairwise_cons] at h
    unfold findT
    rw [List.find?_cons]
    rcases List.mem_cons.1 ht with rfl | ht
    · simp
    · have := h.1 t ht
      rw [show decide (x.id = t.id) = false by simp; omega]
      exact ih (rise_iff.2 h.2) ht h.2
theorem find_not {l : List TxD} {id : Int} (h : ∀ t ∈ l, t.id ≠ id) : findT l id = none := by
  unfold findT
  exact List.find?_eq_none.2 fun t ht => by simpa using h t ht
theorem right_iff {g : HistD} : RightH g ↔ g.txs.length ≤ 4096 ∧ Rise TxD.id g.txs ∧ (∀ t ∈ g.txs, rightT t = 0 ∧ needsH g t = true) ∧ Rise OrdD.key g.orders ∧ NE g.orders ∧ ∀ k, (getO g.orders k).Perm (writersH g.txs k) := by
  constructor
  · intro h
    obtain ⟨r1', r2'⟩ := right_rise h
    have hne := right_ne h
    have h2 := (ord_same g).2 h.2.2
    refine ⟨h.1, r1', fun t ht => ?_, r2', hne, fun k => ?_⟩
    · obtain ⟨j, hj, e⟩ := List.getElem_of_mem ht
      have := (h.2.1 j hj).2
      rwa [nth_eq hj, e] at this
    · by_cases hk : getO g.orders k = []
      · rw [hk]
        have hw : writersH g.txs k = [] := by
          refine Decidable.byContradiction fun hw => ?_
          obtain ⟨j, hj, e⟩ := List.getElem_of_mem (keysH_mem.2 hw)
          have hjo : j < g.orders.length := by rw [h.2.2.1]; exact hj
          have h3 := (h.2.2.2 j hjo).1
          rw [nth_eq hj, e] at h3
          have h4 := getO_mem (rise_iff.1 r2') (nth_mem hjo)
          rw [h3, hk] at h4
          exact hne _ (nth_mem hjo) h4.symm
        rw [hw]
      · have hm := getO_in hk
        obtain ⟨j, hj, e⟩ := List.getElem_of_mem hm
        have := (h2.2 j hj).2.2
        rw [nth_eq hj, e] at this
        exact this
  · rintro ⟨h1, h2, h3, h4, h5, h6⟩
    have hk : g.orders.map OrdD.key = keysH g.txs := by
      refine inc_unique (List.pairwise_map.2 (rise_iff.1 h4)) (keysL_inc _).1 fun k => ?_
      rw [keysH_mem, List.mem_map]
      constructor
      · rintro ⟨o, ho, rfl⟩ e
        have := h6 o.key
        rw [e, getO_mem (rise_iff.1 h4) ho] at this
        exact h5 o ho this.eq_nil
      · intro e
        have : getO g.orders k ≠ [] := fun e2 => by
          have := h6 k
          rw [e2] at this
          exact e this.symm.eq_nil
        exact ⟨_, getO_in this, rfl⟩
    have hlen : g.orders.length = (keysH g.txs).length := by rw [← hk, List.length_map]
    refine ⟨h1, fun i hi => ?_, (ord_same g).1 ⟨hlen, fun i hi => ?_⟩⟩
    · obtain ⟨g1, g2⟩ := h3 _ (nth_mem hi)
      exact ⟨fun h0 => h2 (i - 1) i (by omega) hi, g1, g2⟩
    · refine ⟨fun h0 => h4 (i - 1) i (by omega) hi, h5 _ (nth_mem hi), ?_⟩
      have := h6 (Go.Gm.nth g.orders i).key
      rwa [getO_mem (rise_iff.1 h4) (nth_mem hi)] at this
theorem listF_mem {t : TxD} {l : List Int} {k x : Int} : x ∈ listF t l k ↔ (x ∈ l ∧ x ≠ t.id) ∨ (x = t.id ∧ t.done = true ∧ 0 < wcnt t.ops k) := by
  unfold listF
  by_cases h : t.done = true ∧ 0 < wcnt t.ops k
  · rw [if_pos h]
    unfold withO
    split
    · rename_i hi
      constructor
      · intro hx
        by_cases e : x = t.id
        · exact .inr ⟨e, h⟩
        · exact .inl ⟨hx, e⟩
      · rintro (⟨hx, _⟩ | ⟨rfl, _⟩)
        · exact hx
        · exact hi
    · rename_i hi
      rw [List.mem_append, List.mem_singleton]
      constructor
      · rintro (hx | hx)
        · exact .inl ⟨hx, fun e => hi (e ▸ hx)⟩
        · exact .inr ⟨hx, h⟩
      · rintro (⟨hx, _⟩ | ⟨e, _⟩)
        · exact .inl hx
        · exact .inr e
  · rw [if_neg h]
    unfold withoutO
    rw [List.mem_filter, decide_eq_true_eq]
    exact ⟨fun h1 => .inl h1, fun h1 => h1.elim id fun h2 => absurd h2.2 h⟩
theorem listF_nodup {t : TxD} {l : List Int} (h : l.Nodup) (k : Int) : (listF t l k).Nodup := by
  unfold listF
  split
  · unfold withO
    split
    · exact h
    · rename_i hi
      rw [List.nodup_append]
      exact ⟨h, by simp, fun a ha b hb => by rw [List.mem_singleton] at hb; subst hb; exact fun e => hi (e ▸ ha)⟩
  · exact h.filter _
theorem edit_right {g : HistD} {t : TxD} {b : Bool} {l : List TxD} (hR : RightH g) (hs : SmallO g.orders) (hr : Rise TxD.id l) (hl : l.length ≤ 4096) (hM : ∀ s, s ∈ l ↔ (s ∈ g.txs ∧ s.id ≠ t.id) ∨ (s = t ∧ b = true))
    (ht : b = true → rightT t = 0 ∧ needsH g t = true) (hb : b = false → t.done = false)
    (hu : ∀ x ∈ l, ∀ v ∈ needsT x, v.tx = t.id → hasH g v = true → ¬ (v.tx = 0 ∧ v.nth = 0) → b = true ∧ v.nth ≤ (wcnt t.ops v.key : Int)) : RightH ⟨l, settleO t g.orders⟩ := by
  obtain ⟨h1, h2, h3, h4, h5, h6⟩ := right_iff.1 hR
  obtain ⟨s1, s2⟩ := settle_rise (t := t) h4 hs
  have hhas : ∀ x ∈ l, ∀ v ∈ needsT x, hasH g v = true → hasH ⟨l, settleO t g.orders⟩ v = true := by
    intro x hx v hv hg
    by_cases hz : v.tx = 0 ∧ v.nth = 0
    · unfold hasH at hg ⊢
      rw [if_pos hz] at hg ⊢
      exact hg
    · have hu2 := hu x hx v hv
      unfold hasH at hg hu2 ⊢
      rw [if_neg hz] at hg hu2 ⊢
      by_cases e : v.tx = t.id
      · obtain ⟨b1, b2⟩ := hu2 e hg hz
        have hm : t ∈ l := (hM t).2 (.inr ⟨rfl, b1⟩)
        have hf := find_mem hr hm
        simp only [Bool.and_eq_true, decide_eq_true_eq] at hg ⊢
        show _ ∧ _
        rw [e, hf]
        exact ⟨rfl, hg.2.1, b2⟩
      · have hf : findT l v.tx = findT g.txs v.tx := by
          cases hc : findT g.txs v.tx with
          | none =>
            refine find_not fun s hsl es => ?_
            rcases (hM s).1 hsl with ⟨m1, m2⟩ | ⟨rfl, _⟩
            · have := find_mem h2 m1
              rw [es, hc] at this; cases this
            · exact e es.symm
          | some s =>
            obtain ⟨m1, m2⟩ := findT_mem hc
            have hm : s ∈ l := (hM s).2 (.inl ⟨m1, by rw [m2]; exact e⟩)
            have := find_mem hr hm
            rwa [m2] at this
        show (((findT l v.tx).isSome && _) : Bool) = true
        rw [hf]; exact hg
  refine right_iff.2 ⟨hl, hr, fun x hx => ?_, rise_iff.2 s1, s2, fun k => ?_⟩
  · have hx2 : rightT x = 0 ∧ needsH g x = true := by
      rcases (hM x).1 hx with ⟨m1, _⟩ | ⟨rfl, b1⟩
      · exact h3 x m1
      · exact ht b1
    refine ⟨hx2.1, ?_⟩
    have h7 := hx2.2
    unfold needsH at h7 ⊢
    rw [List.all_eq_true] at h7 ⊢
    exact fun v hv => hhas x hx v hv (h7 v hv)
  · rw [settle_get h4 k]
    have hn : (getO g.orders k).Nodup := (h6 k).symm.nodup (writers_nodup h2 k)
    refine (List.perm_ext_iff_of_nodup (listF_nodup hn k) (writers_nodup hr k)).2 fun x => ?_
    rw [listF_mem, writers_mem, (h6 k).mem_iff, writers_mem]
    constructor
    · rintro (⟨⟨s, m1, m2, m3, m4⟩, m5⟩ | ⟨rfl, m3, m4⟩)
      · exact ⟨s, (hM s).2 (.inl ⟨m1, by rw [m2]; exact m5⟩), m2, m3, m4⟩
      · refine ⟨t, (hM t).2 (.inr ⟨rfl, ?_⟩), rfl, m3, m4⟩
        cases b with
        | true => rfl
        | false => rw [hb rfl] at m3; cases m3
    · rintro ⟨s, m1, m2, m3, m4⟩
      rcases (hM s).1 m1 with ⟨m5, m6⟩ | ⟨rfl, _⟩
      · exact .inl ⟨⟨s, m5, m2, m3, m4⟩, by rw [← m2]; exact m6⟩
      · exact .inr ⟨m2.symm, m3, m4⟩
theorem rise_new {l : List TxD} {t : TxD} (h : Rise TxD.id l) (hk : isK TxD.id t.id l = false) : Rise TxD.id (l.take (lowK TxD.id t.id l) ++ [t] ++ l.drop (lowK TxD.id t.id l)) ∧ ∀ s, s ∈ l.take (lowK TxD.id t.id l) ++ [t] ++ l.drop (lowK TxD.id t.id l) ↔ (s ∈ l ∧ s.id ≠ t.id) ∨ (s = t ∧ true = true) := by
  rw [← putGR_new (rise_iff.1 h) hk]
  refine ⟨rise_iff.2 (putGR_rise (rise_iff.1 h)), fun s => ?_⟩
  rw [putGR_new (rise_iff.1 h) hk, List.mem_append, List.mem_append, List.mem_singleton]
  have hne : ∀ s ∈ l, s.id ≠ t.id := fun s hs e => by
    have := List.any_eq_false.1 hk s hs
    simp at this; exact this e
  constructor
  · rintro ((h1 | h1) | h1)
    · exact .inl ⟨List.mem_of_mem_take h1, hne s (List.mem_of_mem_take h1)⟩
    · exact .inr ⟨h1, rfl⟩
    · exact .inl ⟨List.mem_of_mem_drop h1, hne s (List.mem_of_mem_drop h1)⟩
  · rintro (⟨h1, _⟩ | ⟨h1, _⟩)
    · rw [← List.take_append_drop (lowK TxD.id t.id l) l, List.mem_append] at h1
      rcases h1 with h1 | h1
      · exact .inl (.inl h1)
      · exact .inr h1
    · exact .inl (.inr h1)
theorem rise_old {l : List TxD} {t : TxD} (h : Rise TxD.id l) (hk : isK TxD.id t.id l = true) : Rise TxD.id (l.set (lowK TxD.id t.id l) t) ∧ ∀ s, s ∈ l.set (lowK TxD.id t.id l) t ↔ (s ∈ l ∧ s.id ≠ t.id) ∨ (s = t ∧ true = true) := by
  rw [← putGR_old (rise_iff.1 h) hk]
  refine ⟨rise_iff.2 (putGR_rise (rise_iff.1 h)), fun s => ?_⟩
  constructor
  · intro hs
    rcases putGR_mem hs with ⟨rfl, _⟩ | h1
    · exact .inr ⟨rfl, rfl⟩
    · exact .inl h1
  · have key : ∀ (l : List TxD) (d : Bool), ((s ∈ l ∧ s.id ≠ t.id) ∨ (s = t ∧ d = false)) → s ∈ putGR TxD.id t l d := by
      intro l
      induction l with
      | nil =>
        rintro d (⟨h1, _⟩ | ⟨rfl, h1⟩)
        · cases h1
        · subst h1; simp [putGR]
      | cons x l ih =>
        intro d hx
        rw [putGR, List.mem_append, List.mem_append]
        rcases hx with ⟨h1, h2⟩ | ⟨rfl, h1⟩
        · rcases List.mem_cons.1 h1 with rfl | h1
          · exact .inl (.inr (by rw [if_neg h2]; simp))
          · exact .inr (ih _ (.inl ⟨h1, h2⟩))
        · by_cases hA : s.id ≤ x.id
          · exact .inl (.inl (by rw [if_pos ⟨h1, hA⟩]; simp))
          · exact .inr (ih _ (.inr ⟨rfl, by rw [h1]; simp; omega⟩))
    rintro (h1 | ⟨h1, _⟩)
    · exact key l false (.inl h1)
    · exact key l false (.inr ⟨h1, rfl⟩)
theorem needs_tx {t : TxD} {v : VerD} (h : v ∈ needsT t) : v.tx ≠ t.id := by
  have key : ∀ (l : List OpD) (out : List VerD), (∀ v ∈ out, v.tx ≠ t.id) → ∀ v ∈ l.foldl (needStep t.id) out, v.tx ≠ t.id := by
    intro l
    induction l with
    | nil => intro out h; exact h
    | cons o l ih =>
      intro out h
      refine ih _ fun v hv => ?_
      unfold needStep at hv
      split at hv
      · rename_i hc
        rcases List.mem_append.1 hv with hv | hv
        · exact h v hv
        · have e : v = ofO o := by simpa using hv
          have hn := hc.1
          unfold needO at hn
          simp at hn
          rw [e]
          unfold ofO
          rw [if_pos hn.1.1]
          exact hn.2
      · exact h v hv
  exact key _ _ (fun v hv => by cases hv) v h
theorem has_find {g : HistD} {v : VerD} (h : hasH g v = true) (hz : ¬ (v.tx = 0 ∧ v.nth = 0)) : isK TxD.id v.tx g.txs = true ∧ 1 ≤ v.nth := by
  unfold hasH at h
  rw [if_neg hz, Bool.and_eq_true, Bool.and_eq_true, find_is] at h
  exact ⟨h.1, by simpa using h.2.1⟩
theorem unused {g : HistD} {t x : TxD} {v : VerD} (h : usedH g t = false) (hx : x ∈ g.txs) (hn : x.id ≠ t.id) (hv : v ∈ needsT x) (e : v.tx = t.id) : v.nth ≤ (wcnt t.ops v.key : Int) := by
  have h1 := List.any_eq_false.1 h x hx
  unfold usedX at h1
  rw [decide_eq_true hn, Bool.true_and] at h1
  have h2 := List.any_eq_false.1 (by simpa using h1) v hv
  unfold usedV at h2
  simp [e] at h2
  omega
theorem insert_right {g : HistD} {t : TxD} (hs : Small g) (h : (insertH g t).2 = 0) : RightH (insertH g t).1 := by
  unfold insertH at h ⊢
  split at h
  · rename_i h1; exact absurd h h1
  · rename_i h1
    split at h
    · simp at h
    · rename_i h2
      obtain ⟨hr, hrt, hik, hnd, _⟩ := may_ok (by decide) (Decidable.not_not.1 h1)
      rw [if_neg h1, if_neg h2]
      obtain ⟨m1, m2⟩ := rise_new (right_rise hr).1 hik
      refine edit_right (b := true) hr hs.2 m1 ?_ m2 (fun _ => ⟨hrt, hnd⟩) (fun h => by cases h) fun x _ v _ e hv hz => ?_
      · have := hr.1
        rw [List.length_append, List.length_append, List.length_take, List.length_drop]; simp; omega
      · have := (has_find hv hz).1
        rw [e, hik] at this; cases this
theorem amend_right {g : HistD} {t : TxD} (hs : Small g) (h : (amendH g t).2 = 0) : RightH (amendH g t).1 := by
  unfold amendH at h ⊢
  split at h
  · rename_i h1; exact absurd h h1
  · rename_i h1
    split at h
    · simp at h
    · rename_i h2
      obtain ⟨hr, hrt, hik, hnd, _⟩ := may_ok (by decide) (Decidable.not_not.1 h1)
      rw [if_neg h1, if_neg h2]
      obtain ⟨m1, m2⟩ := rise_old (right_rise hr).1 hik
      refine edit_right (b := true) hr hs.2 m1 (by rw [List.length_set]; exact hr.1) m2 (fun _ => ⟨hrt, hnd⟩) (fun h => by cases h) fun x hx v hv e _ _ => ⟨rfl, ?_⟩
      rcases (m2 x).1 hx with ⟨h3, h4⟩ | ⟨rfl, _⟩
      · exact unused (by simpa using h2) h3 h4 hv e
      · exact absurd e (needs_tx hv)
theorem delete_right {g : HistD} {id : Int} (hs : Small g) (h : (deleteH g id).2 = 0) : RightH (deleteH g id).1 := by
  unfold deleteH at h ⊢
  split at h
  · simp at h
  · rename_i h1
    split at h
    · simp at h
    · rename_i h2
      split at h
      · simp at h
      · rename_i h3
        have hr := Decidable.not_not.1 h1
        have hik : isK TxD.id id g.txs = true := by simpa using h2
        have hri := (right_rise hr).1
        rw [if_neg h1, if_neg h2, if_neg h3, ← filter_low (rise_iff.1 hri) hik]
        refine edit_right (b := false) hr hs.2 (rise_iff.2 ((rise_iff.1 hri).filter _)) (Nat.le_trans (List.length_filter_le _ _) hr.1) (fun s => ?_) (fun h => by cases h) (fun _ => rfl) fun x hx v hv e hg hz => ?_
        · rw [List.mem_filter]; simp [noneT]
        · rw [List.mem_filter] at hx
          have h5 := unused (t := noneT id) (by simpa using h3) hx.1 (by simpa [noneT] using hx.2) hv e
          have h6 := (has_find hg hz).2
          have h7 : wcnt (noneT id).ops v.key = 0 := rfl
          rw [h7] at h5
          omega
theorem turned_right {g : HistD} {key : Int} {rule : List Int → List Int × Int} (hp : ∀ l, (rule l).2 = 0 → (rule l).1.Perm l) (h : (turnedH g key rule).2 = 0) : RightH (turnedH g key rule).1 := by
  by_cases hr : RightH g
  · by_cases hg : getO g.orders key = []
    · rw [turn_2 hr hg] at h; simp at h
    · by_cases h3 : (rule (getO g.orders key)).2 = 0
      · have hpp := hp _ h3
        have hne : (rule (getO g.orders key)).1 ≠ [] := fun e => hg (by rw [e] at hpp; exact hpp.symm.eq_nil)
        rw [turn_4 hr hg h3 hne, decide_eq_false hne]
        obtain ⟨h1, h2, h4, h5, h6, h7⟩ := right_iff.1 hr
        refine right_iff.2 ⟨h1, h2, fun t ht => ?_, rise_iff.2 (putGR_rise (rise_iff.1 h5)), fun o ho => ?_, fun k => ?_⟩
        · obtain ⟨g1, g2⟩ := h4 t ht
          exact ⟨g1, g2⟩
        · rcases putGR_mem ho with ⟨rfl, _⟩ | ⟨g1, _⟩
          · exact hne
          · exact h6 o g1
        · show (getO (putGR OrdD.key _ g.orders false) k).Perm _
          rw [getO_put (rise_iff.1 h5)]
          by_cases e : k = key
          · subst e
            rw [if_pos rfl]
            exact hpp.trans (h7 k)
          · rw [if_neg e]; exact h7 k
      · rw [turn_3 hr hg h3] at h; exact absurd h h3
  · rw [turn_1 hr] at h; simp at h
theorem rule_perm {o : OrdD} (l : List Int) (h : (ruleR o l).2 = 0) : (ruleR o l).1.Perm l := by
  unfold ruleR at h ⊢
  split at h
  · rename_i hp; rw [if_pos hp]; exact hp.symm
  · simp at h
/-- Right stays right. -/
theorem do_right {g : HistD} {e : EdD} (hs : Small g) (h : (doH g e).2 = 0) : RightH (doH g e).1 := by
  unfold doH at h ⊢
  by_cases k0 : e.kind = 0
  · rw [if_pos k0] at h ⊢; exact insert_right hs h
  · rw [if_neg k0] at h ⊢
    by_cases k1 : e.kind = 1
    · rw [if_pos k1] at h ⊢; exact delete_right hs h
    · rw [if_neg k1] at h ⊢
      by_cases k2 : e.kind = 2
      · rw [if_pos k2] at h ⊢; exact amend_right hs h
      · rw [if_neg k2] at h ⊢
        by_cases k3 : e.kind = 3
        · rw [if_pos k3] at h ⊢; exact turned_right rule_perm h
        · rw [if_neg k3] at h ⊢
          by_cases k4 : e.kind = 4
          · rw [if_pos k4] at h ⊢; exact turned_right (rule := fun l => moveO l e.t.id e.place) (fun l h => move_perm h) h
          · rw [if_neg k4] at h; simp at h
theorem zero_right : RightH zeroH := by decide +kernel
end Go.Proofs.YtcfgcpcakdknkaaGreat
