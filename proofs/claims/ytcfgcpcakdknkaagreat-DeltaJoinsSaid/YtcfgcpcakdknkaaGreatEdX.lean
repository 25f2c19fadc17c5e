/- Ed1, Ed2, Ed3, Ed4, Ed5, Ed6, Ed7, Ed8, Ed9, in one text. -/
import Derived.Test.YtcfgcpcakdknkaaGreatHi0
import Derived.Test.YtcfgcpcakdknkaaGreatOr1
import Derived.Test.YtcfgcpcakdknkaaGreatLibE
import Derived.Test.YtcfgcpcakdknkaaGreatTxX
import Derived.Test.YtcfgcpcakdknkaaGreatHiX
import Derived.Test.YtcfgcpcakdknkaaGreatOrX
import Derived.Test.YtcfgcpcakdknkaaGreatHiL
namespace Go.Proofs.YtcfgcpcakdknkaaGreat
open Go Go.Gm
set_option linter.unusedVariables false
set_option linter.unusedSimpArgs false
set_option maxHeartbeats 4000000
set_option maxRecDepth 8000



end Go.Proofs.YtcfgcpcakdknkaaGreat
namespace Go.Proofs.YtcfgcpcakdknkaaGreat
open Go Go.Gm
set_option linter.unusedVariables false
set_option linter.unusedSimpArgs false
set_option maxHeartbeats 4000000
set_option maxRecDepth 8000

end Go.Proofs.YtcfgcpcakdknkaaGreat
namespace Go.Proofs.YtcfgcpcakdknkaaGreat
open Go Go.Gm
set_option linter.unusedVariables false
set_option linter.unusedSimpArgs false
set_option maxHeartbeats 4000000
set_option maxRecDepth 8000

def cmpZ (x y : Int) : Int := if x < y then -1 else if y < x then 1 else 0
theorem cmpZ_lt {x y : Int} : cmpZ x y < 0 ↔ x < y := by unfold cmpZ; split <;> (try split) <;> omega
theorem wrapU {x : Int} (h : 0 ≤ x ∧ x ≤ 18446744073709551615) : IntKind.wrap .u64 x = x := wrap_id ⟨by simp [IntKind.min, IntKind.signed, IntKind.bits]; omega, by simp [IntKind.max, IntKind.signed, IntKind.bits]; omega⟩
theorem mid_shr {i j : Nat} (h : i + j ≤ 2000000) : IntKind.wrap .i64 ((IntKind.wrap .u64 (IntKind.wrap .i64 ((i : Int) + (j : Int)))).fdiv (2 ^ min (1 : Int).toNat (IntKind.bits .u64))) = (((i + j) / 2 : Nat) : Int) := by
  rw [wrap_i64 (x := (i : Int) + (j : Int)) (by omega), wrapU (by omega), show (2 : Int) ^ min (1 : Int).toNat (IntKind.bits .u64) = 2 by decide, Int.fdiv_eq_ediv_of_nonneg _ (by decide), wrap_i64 (by omega)]
  omega
/-- The rising of keys, and the place of one. -/
def Rise {α : Type} [Inhabited α] (κ : α → Int) (l : List α) : Prop := ∀ a b, a < b → b < l.length → κ (Go.Gm.nth l a) < κ (Go.Gm.nth l b)
def lowK {α : Type} (κ : α → Int) (k : Int) (l : List α) : Nat := (l.takeWhile fun x => decide (κ x < k)).length
def isK {α : Type} (κ : α → Int) (k : Int) (l : List α) : Bool := l.any fun x => decide (κ x = k)
theorem lowK_eq {α : Type} [Inhabited α] {κ : α → Int} {k : Int} : ∀ {l : List α} {i : Nat}, i ≤ l.length → (∀ q, q < i → κ (Go.Gm.nth l q) < k) → (∀ q, i ≤ q → q < l.length → k ≤ κ (Go.Gm.nth l q)) → lowK κ k l = i
  | [], i, hi, _, _ => by simp at hi; subst hi; rfl
  | x :: l, 0, _, _, h2 => by
    have := h2 0 (Nat.le_refl _) (by simp)
    rw [nth_eq (by simp)] at this
    unfold lowK
    rw [List.takeWhile_cons_of_neg (by simpa using this)]; rfl
  | x :: l, i + 1, hi, h1, h2 => by
    have hx := h1 0 (by omega)
    rw [nth_eq (by simp)] at hx
    have ih := lowK_eq (κ := κ) (k := k) (l := l) (i := i) (by simpa using hi) (fun q hq => by
      have := h1 (q + 1) (by omega)
      rw [nth_eq (by simp at hi ⊢; omega)] at this
      rw [nth_eq (by simp at hi; omega)]; simpa using this) (fun q hq hq2 => by
      have := h2 (q + 1) (by omega) (by simp; omega)
      rw [nth_eq (by simp; omega)] at this
      rw [nth_eq hq2]; simpa using this)
    unfold lowK at ih ⊢
    rw [List.takeWhile_cons_of_pos (by simpa using hx), List.length_cons, ih]
theorem rise_le {α : Type} [Inhabited α] {κ : α → Int} {l : List α} (hs : Rise κ l) {a b : Nat} (h : a ≤ b) (hb : b < l.length) : κ (Go.Gm.nth l a) ≤ κ (Go.Gm.nth l b) := by
  rcases Nat.lt_or_eq_of_le h with h | h
  · exact Int.le_of_lt (hs a b h hb)
  · subst h; exact Int.le_refl _

theorem isNaNZ_c (x : Int) : FnP Tryz.prog 147 [.int .i64 x] (.bool false) := by
  refine FnP.mk Tryz.func147 rfl Tryz.ntmps147 rfl ?_
  intro B a w F hB hfr hS
  refine wp_seq ?_
  refine region_z hS (qf (oN .cb) trivial qz qZ) hB [2, 0] [0] rfl rfl ?_
  clear hS; intro a w F hS
  refine then_n (wp_seq ?_)
  refine region_z hS (qM rfl rfl (qM rfl rfl (qf (o_neq .t .t) r2 qz (qN rfl rfl qZ)))) hB [2] [0] rfl rfl ?_
  clear hS; intro a w F hS
  refine then_n (wp_ret ?_)
  refine ret_P hfr hS rfl (.tmp rfl .nil) (.one (.bool (by simp)))

theorem cmpZ_c (x y : Int) : FnP Tryz.prog 111 [.int .i64 x, .int .i64 y] (.int .i64 (cmpZ x y)) := by
  refine FnP.mk Tryz.func111 rfl Tryz.ntmps111 rfl ?_
  intro B a w F hB hfr hS
  refine wp_seq ?_
  refine region_z hS (qf (oN qi) trivial qz qZ) hB [4, 1, 0] [0] rfl rfl ?_
  clear hS; intro a w F hS
  refine then_n (wp_seq ?_)
  refine region_z hS (qM rfl rfl (qf (oP (isNaNZ_c x) Tryz.func147 (Args.one .t)) r1 qz (qN rfl rfl qZ))) hB [5, 4, 1, 0] [0] rfl rfl ?_
  clear hS; intro a w F hS
  refine then_n (wp_seq ?_)
  refine region_z hS (qM rfl rfl (qf (oP (isNaNZ_c y) Tryz.func147 (Args.one .t)) r1 qz (qN rfl rfl qZ))) hB [6, 5, 4, 1, 0] [0] rfl rfl ?_
  clear hS; intro a w F hS
  refine then_n (wp_seq (wp_seq ?_))
  refine region_z hS (qM rfl rfl qZ) hB [11, 6, 4, 1, 0] [0] rfl rfl ?_
  clear hS; intro a w F hS
  refine then_n ?_
  refine cond_b hS rfl (fun hc0 => ?_) (fun hc0 => ?_)
  ·skip
   simp at hc0
  refine wp_skip (then_n (wp_seq (wp_seq ?_)))
  refine region_z hS (qM rfl rfl qZ) hB [13, 4, 1, 0] [0] rfl rfl ?_
  clear hS; intro a w F hS
  refine then_n ?_
  refine cond_b hS rfl (fun hc1 => ?_) (fun hc1 => ?_)
  ·skip
   simp at hc1
  refine wp_skip (then_n (wp_seq (wp_seq ?_)))
  refine region_z hS (qM rfl rfl (qM rfl rfl (qf (o_lss .t .t) r2 qz qZ))) hB [16, 4, 1, 0] [0] rfl rfl ?_
  clear hS; intro a w F hS
  refine then_n ?_
  refine cond_b hS rfl (fun hc2 => ?_) (fun hc2 => ?_)
  ·skip
   have hg : (-1 : Int) = cmpZ x y := by unfold cmpZ; rw [if_pos (by simpa using hc2)]
   refine wp_seq ?_
   refine region_z hS (qf (oN qi) trivial qz qZ) hB [4, 1, 0] [0] rfl rfl ?_
   clear hS; intro a w F hS
   refine then_n (wp_ret (then_r ?_))
   refine ret_P hfr hS rfl (.tmp rfl .nil) (.one (.int hg))
  have h1 : ¬ x < y := by simpa using hc2
  refine wp_skip (then_n (wp_seq (wp_seq ?_)))
  refine region_z hS (qM rfl rfl (qM rfl rfl (qf (o_gtr .t .t) r2 qz qZ))) hB [19, 4] [0] rfl rfl ?_
  clear hS; intro a w F hS
  refine then_n ?_
  refine cond_b hS rfl (fun hc3 => ?_) (fun hc3 => ?_)
  ·skip
   have hg : (1 : Int) = cmpZ x y := by unfold cmpZ; rw [if_neg h1, if_pos (by simpa using hc3)]
   refine wp_seq ?_
   refine region_z hS (qf (oN qi) trivial qz qZ) hB [4] [0] rfl rfl ?_
   clear hS; intro a w F hS
   refine then_n (wp_ret (then_r ?_))
   refine ret_P hfr hS rfl (.tmp rfl .nil) (.one (.int hg))
  have hg : (0 : Int) = cmpZ x y := by unfold cmpZ; rw [if_neg h1, if_neg (by simpa using hc3)]
  refine wp_skip (then_n (wp_seq ?_))
  refine region_z hS (qf (oN qi) trivial qz qZ) hB [4] [0] rfl rfl ?_
  clear hS; intro a w F hS
  refine then_n (wp_ret ?_)
  refine ret_P hfr hS rfl (.tmp rfl .nil) (.one (.int hg))

end Go.Proofs.YtcfgcpcakdknkaaGreat
namespace Go.Proofs.YtcfgcpcakdknkaaGreat
open Go Go.Gm
set_option linter.unusedVariables false
set_option linter.unusedSimpArgs false
set_option maxHeartbeats 4000000
set_option maxRecDepth 8000

end Go.Proofs.YtcfgcpcakdknkaaGreat
namespace Go.Proofs.YtcfgcpcakdknkaaGreat
open Go Go.Gm
set_option linter.unusedVariables false
set_option linter.unusedSimpArgs false
set_option maxHeartbeats 4000000
set_option maxRecDepth 8000

/-- An order more, if there is none of the key. -/
def insK (os : List OrdD) (k : Int) : List OrdD := if isK OrdD.key k os = true then os else os.take (lowK OrdD.key k os) ++ [⟨k, []⟩] ++ os.drop (lowK OrdD.key k os)
def putK (k : Int) : List OrdD → List OrdD
  | [] => [⟨k, []⟩]
  | o :: os => if o.key < k then o :: putK k os else if o.key = k then o :: os else ⟨k, []⟩ :: o :: os
theorem rise_iff {α : Type} [Inhabited α] {κ : α → Int} {l : List α} : Rise κ l ↔ l.Pairwise fun a b => κ a < κ b := by
  rw [List.pairwise_iff_getElem]
  constructor
  · intro h i j hi hj hij
    have := h i j hij hj
    rwa [nth_eq hi, nth_eq hj] at this
  · intro h a b hab hb
    rw [nth_eq (by omega), nth_eq hb]
    exact h a b (by omega) hb hab
theorem insK_put (k : Int) : ∀ {os : List OrdD}, Rise OrdD.key os → insK os k = putK k os
  | [], _ => rfl
  | o :: os, h => by
    rw [rise_iff, List.pairwise_cons] at h
    have ih := insK_put k (os := os) (rise_iff.2 h.2)
    have e1 : lowK OrdD.key k (o :: os) = if o.key < k then lowK OrdD.key k os + 1 else 0 := by
      unfold lowK
      split
      · rename_i h1
        rw [List.takeWhile_cons_of_pos (by simpa using h1), List.length_cons]
      · rename_i h1
        rw [List.takeWhile_cons_of_neg (by simpa using h1)]; rfl
    have e2 : isK OrdD.key k (o :: os) = (decide (o.key = k) || isK OrdD.key k os) := by unfold isK; rw [List.any_cons]
    by_cases h1 : o.key < k
    · rw [if_pos h1] at e1
      have e3 : isK OrdD.key k (o :: os) = isK OrdD.key k os := by rw [e2, decide_eq_false (by omega), Bool.false_or]
      unfold insK at ih ⊢
      unfold putK
      rw [if_pos h1, e3, e1]
      split
      · rename_i h2; rw [if_pos h2] at ih; exact congrArg (o :: ·) ih
      · rename_i h2; rw [if_neg h2] at ih; rw [← ih]; simp
    · rw [if_neg h1] at e1
      unfold insK putK
      rw [if_neg h1, e1]
      by_cases h3 : o.key = k
      · rw [if_pos h3, if_pos (by rw [e2, decide_eq_true h3, Bool.true_or])]
      · rw [if_neg h3, if_neg]
        · simp
        · rw [e2, decide_eq_false h3, Bool.false_or]
          unfold isK
          rw [List.any_eq_true]
          rintro ⟨x, hx, hk⟩
          have := h.1 x hx
          simp at hk
          omega
theorem putK_mem {k : Int} {o : OrdD} : ∀ {os : List OrdD}, o ∈ putK k os → o ∈ os ∨ o = ⟨k, []⟩
  | [], h => by simp [putK] at h; exact .inr h
  | x :: os, h => by
    unfold putK at h
    split at h
    · rcases List.mem_cons.1 h with h | h
      · exact .inl (by simp [h])
      · rcases putK_mem h with h | h
        · exact .inl (by simp [h])
        · exact .inr h
    · split at h
      · exact .inl h
      · rcases List.mem_cons.1 h with h | h
        · exact .inr h
        · exact .inl h
theorem putK_rise {k : Int} : ∀ {os : List OrdD}, (os.Pairwise fun a b => a.key < b.key) → (putK k os).Pairwise fun a b => a.key < b.key
  | [], _ => by simp [putK]
  | x :: os, h => by
    rw [List.pairwise_cons] at h
    unfold putK
    split
    · rename_i h1
      rw [List.pairwise_cons]
      refine ⟨fun o ho => ?_, putK_rise h.2⟩
      rcases putK_mem ho with h3 | h3
      · exact h.1 o h3
      · rw [h3]; exact h1
    · split
      · rw [List.pairwise_cons]; exact h
      · rw [List.pairwise_cons, List.pairwise_cons]
        refine ⟨fun o ho => ?_, h⟩
        rcases List.mem_cons.1 ho with h3 | h3
        · rw [h3]; show k < x.key; omega
        · have := h.1 o h3; show k < o.key; omega
theorem insK_rise {os : List OrdD} (k : Int) (h : Rise OrdD.key os) : Rise OrdD.key (insK os k) := by
  rw [insK_put k h, rise_iff]
  exact putK_rise (rise_iff.1 h)
theorem insK_len (os : List OrdD) (k : Int) : (insK os k).length ≤ os.length + 1 := by
  unfold insK
  split
  · omega
  · rw [List.length_append, List.length_append, List.length_take, List.length_drop]; simp; omega
theorem insK_mem {os : List OrdD} {k : Int} {o : OrdD} (h : o ∈ insK os k) : o ∈ os ∨ o = ⟨k, []⟩ := by
  unfold insK at h
  split at h
  · exact .inl h
  · rw [List.mem_append, List.mem_append] at h
    rcases h with (h | h) | h
    · exact .inl (List.mem_of_mem_take h)
    · exact .inr (by simpa using h)
    · exact .inl (List.mem_of_mem_drop h)
def insS (t : TxD) (os : List OrdD) (ks : List Int) : List OrdD := if t.done = true then ks.foldl insK os else os
theorem insS_facts {t : TxD} {os : List OrdD} (h : Rise OrdD.key os) (hs : SmallO os) (ks : List Int) : Rise OrdD.key (insS t os ks) ∧ (insS t os ks).length ≤ os.length + ks.length ∧ ∀ o ∈ insS t os ks, o.txs.length ≤ 1000 := by
  unfold insS
  split
  · have key : ∀ (ks : List Int) (os : List OrdD), Rise OrdD.key os → (∀ o ∈ os, o.txs.length ≤ 1000) → Rise OrdD.key (ks.foldl insK os) ∧ (ks.foldl insK os).length ≤ os.length + ks.length ∧ ∀ o ∈ ks.foldl insK os, o.txs.length ≤ 1000 := by
      intro ks
      induction ks with
      | nil => intro os h1 h2; exact ⟨h1, by simp, h2⟩
      | cons k ks ih =>
        intro os h1 h2
        obtain ⟨g1, g2, g3⟩ := ih (insK os k) (insK_rise k h1) (fun o ho => by
          rcases insK_mem ho with h | h
          · exact h2 o h
          · rw [h]; simp)
        have := insK_len os k
        exact ⟨g1, by rw [List.foldl_cons, List.length_cons]; omega, g3⟩
    exact key ks os h hs.2
  · exact ⟨h, by omega, hs.2⟩
def ordF (t : TxD) (o : OrdD) : OrdD := ⟨o.key, if t.done = true ∧ 0 < wcnt t.ops o.key then withO o.txs t.id else withoutO o.txs t.id⟩
def settleO (t : TxD) (os : List OrdD) : List OrdD := ((insS t os (keysT t)).map (ordF t)).filter fun o => !decide (o.txs = [])
/-- A history's block: its transactions' row is kept, that of its orders is owned. -/
abbrev bookH (T TR : TypeId) (p va : Value) (os : List OrdD) : HP := HP.ex fun vb : Value => HP.star [.pt (.val p) T [.pv (.is va), .pv (.is vb)], .ob (.val vb) (rowH TR 2 rOrd os)]
end Go.Proofs.YtcfgcpcakdknkaaGreat
namespace Go.Proofs.YtcfgcpcakdknkaaGreat
open Go Go.Gm
set_option linter.unusedVariables false
set_option linter.unusedSimpArgs false
set_option maxHeartbeats 4000000
set_option maxRecDepth 8000

def zeroH : HistD := ⟨[], []⟩
theorem right_rise {g : HistD} (h : RightH g) : Rise TxD.id g.txs ∧ Rise OrdD.key g.orders := by
  constructor
  · have hi : IncI (g.txs.map TxD.id) := inc_adj fun i hi h0 => by
      have hi' : i < g.txs.length := by simpa using hi
      rw [nth_map (by omega), nth_map hi']
      exact (h.2.1 i hi').1 h0
    rw [rise_iff]
    exact List.pairwise_map.1 hi
  · have h2 := (ord_same g).2 h.2.2
    have hi : IncI (g.orders.map OrdD.key) := inc_adj fun i hi h0 => by
      have hi' : i < g.orders.length := by simpa using hi
      rw [nth_map (by omega), nth_map hi']
      exact (h2.2 i hi').1 h0
    rw [rise_iff]
    exact List.pairwise_map.1 hi
def usedV (t : TxD) (v : VerD) : Bool := decide (v.tx = t.id) && decide ((wcnt t.ops v.key : Int) < v.nth)
def usedX (t x : TxD) : Bool := decide (x.id ≠ t.id) && (needsT x).any (usedV t)
def usedH (g : HistD) (t : TxD) : Bool := g.txs.any (usedX t)
def mayH (g : HistD) (t : TxD) (there : Int) (wanted : Bool) : Int × Int := if ¬ RightH g then (0, 5) else if rightT t ≠ 0 then (0, rightT t) else if isK TxD.id t.id g.txs ≠ wanted then (0, there) else if needsH g t = false then (0, 6) else (lowK TxD.id t.id g.txs, 0)
def insertH (g : HistD) (t : TxD) : HistD × Int := if (mayH g t 4 false).2 ≠ 0 then (zeroH, (mayH g t 4 false).2) else if g.txs.length = 4096 then (zeroH, 2) else (⟨g.txs.take (lowK TxD.id t.id g.txs) ++ [t] ++ g.txs.drop (lowK TxD.id t.id g.txs), settleO t g.orders⟩, 0)
def noneT (id : Int) : TxD := ⟨id, false, []⟩
def deleteH (g : HistD) (id : Int) : HistD × Int := if ¬ RightH g then (zeroH, 5) else if isK TxD.id id g.txs = false then (zeroH, 3) else if usedH g (noneT id) = true then (zeroH, 7) else (⟨g.txs.take (lowK TxD.id id g.txs) ++ g.txs.drop (lowK TxD.id id g.txs + 1), settleO (noneT id) g.orders⟩, 0)
def amendH (g : HistD) (t : TxD) : HistD × Int := if (mayH g t 3 true).2 ≠ 0 then (zeroH, (mayH g t 3 true).2) else if usedH g t = true then (zeroH, 7) else (⟨g.txs.set (lowK TxD.id t.id g.txs) t, settleO t g.orders⟩, 0)
theorem may_ok {g : HistD} {t : TxD} {there : Int} {wanted : Bool} (ht : there ≠ 0) (h : (mayH g t there wanted).2 = 0) : RightH g ∧ rightT t = 0 ∧ isK TxD.id t.id g.txs = wanted ∧ needsH g t = true ∧ (mayH g t there wanted).1 = lowK TxD.id t.id g.txs := by
  unfold mayH at h ⊢
  split at h
  · simp at h
  · rename_i h1
    split at h
    · rename_i h2; exact absurd h h2
    · rename_i h2
      split at h
      · exact absurd h ht
      · rename_i h3
        split at h
        · simp at h
        · rename_i h4
          rw [if_neg h1, if_neg h2, if_neg h3, if_neg h4]
          exact ⟨Decidable.not_not.1 h1, Decidable.not_not.1 h2, Decidable.not_not.1 h3, by simpa using h4, rfl⟩
theorem isK_low {α : Type} [Inhabited α] {κ : α → Int} {k : Int} {l : List α} (hs : Rise κ l) (h : isK κ k l = true) : lowK κ k l < l.length ∧ κ (Go.Gm.nth l (lowK κ k l)) = k := by
  obtain ⟨x, hx, hk⟩ := List.any_eq_true.1 h
  obtain ⟨q, hq, e⟩ := List.getElem_of_mem hx
  have hk' : κ (Go.Gm.nth l q) = k := by rw [nth_eq hq, e]; simpa using hk
  have hl := lowK_eq (κ := κ) (k := k) (l := l) (i := q) (Nat.le_of_lt hq) (fun p hp => by have := hs p q hp hq; omega) (fun p hp hp2 => by have := rise_le hs hp hp2; omega)
  rw [hl]
  exact ⟨hq, hk'⟩

end Go.Proofs.YtcfgcpcakdknkaaGreat
namespace Go.Proofs.YtcfgcpcakdknkaaGreat
open Go Go.Gm
set_option linter.unusedVariables false
set_option linter.unusedSimpArgs false
set_option maxHeartbeats 4000000
set_option maxRecDepth 8000



end Go.Proofs.YtcfgcpcakdknkaaGreat
namespace Go.Proofs.YtcfgcpcakdknkaaGreat
open Go Go.Gm
set_option linter.unusedVariables false
set_option linter.unusedSimpArgs false
set_option maxHeartbeats 4000000
set_option maxRecDepth 8000

def turnedH (g : HistD) (key : Int) (rule : List Int → List Int × Int) : HistD × Int := if ¬ RightH g then (zeroH, 5) else if isK OrdD.key key g.orders = false then (zeroH, 3) else if (rule (Go.Gm.nth g.orders (lowK OrdD.key key g.orders)).txs).2 ≠ 0 then (zeroH, (rule (Go.Gm.nth g.orders (lowK OrdD.key key g.orders)).txs).2) else (⟨g.txs, g.orders.set (lowK OrdD.key key g.orders) ⟨(Go.Gm.nth g.orders (lowK OrdD.key key g.orders)).key, (rule (Go.Gm.nth g.orders (lowK OrdD.key key g.orders)).txs).1⟩⟩, 0)
def ruleR (o : OrdD) (l : List Int) : List Int × Int := if l.Perm o.txs then (o.txs, 0) else ([], 8)
def reorderH (g : HistD) (o : OrdD) : HistD × Int := turnedH g o.key (ruleR o)
def moveH (g : HistD) (key id place : Int) : HistD × Int := turnedH g key fun l => moveO l id place

end Go.Proofs.YtcfgcpcakdknkaaGreat
namespace Go.Proofs.YtcfgcpcakdknkaaGreat
open Go Go.Gm
set_option linter.unusedVariables false
set_option linter.unusedSimpArgs false
set_option maxHeartbeats 4000000
set_option maxRecDepth 8000

section
set_option linter.unusedSectionVars false
variable {α : Type} {κ : α → Int} {t x : α} {l out r : List α} {d : Bool}
/-- A list with one put by its key, as the document does it. -/
def putGR (κ : α → Int) (t : α) : List α → Bool → List α
  | [], d => if d = true then [] else [t]
  | x :: l, d => (if d = false ∧ κ t ≤ κ x then [t] else []) ++ (if κ x = κ t then [] else [x]) ++ putGR κ t l (d || decide (κ t ≤ κ x))
theorem putGR_true : ∀ l : List α, putGR κ t l true = l.filter fun x => !decide (κ x = κ t)
  | [] => rfl
  | x :: l => by
    rw [putGR, if_neg (by simp), List.nil_append, Bool.true_or, putGR_true l]
    split
    · rename_i h; rw [List.filter_cons_of_neg (by simpa using h)]; rfl
    · rename_i h; rw [List.filter_cons_of_pos (by simpa using h)]; rfl
theorem filter_over {k : Int} (h : ∀ x ∈ l, k < κ x) : (l.filter fun x => !decide (κ x = k)) = l := by
  rw [List.filter_eq_self]
  intro x hx
  have := h x hx
  simp; omega
theorem lowK_cons {k : Int} : lowK κ k (x :: l) = if κ x < k then lowK κ k l + 1 else 0 := by
  unfold lowK
  split
  · rename_i h1; rw [List.takeWhile_cons_of_pos (by simpa using h1), List.length_cons]
  · rename_i h1; rw [List.takeWhile_cons_of_neg (by simpa using h1)]; rfl
theorem isK_cons {k : Int} : isK κ k (x :: l) = (decide (κ x = k) || isK κ k l) := by unfold isK; rw [List.any_cons]
theorem isK_over {k : Int} (h : ∀ x ∈ l, k < κ x) : isK κ k l = false := by
  unfold isK
  rw [List.any_eq_false]
  intro x hx
  have := h x hx
  simp; omega
theorem putGR_new (hs : l.Pairwise fun a b => κ a < κ b) (hk : isK κ (κ t) l = false) : putGR κ t l false = l.take (lowK κ (κ t) l) ++ [t] ++ l.drop (lowK κ (κ t) l) := by
  induction l with
  | nil => rfl
  | cons x l ih =>
    rw [List.pairwise_cons] at hs
    rw [isK_cons, Bool.or_eq_false_iff, decide_eq_false_iff_not] at hk
    rw [putGR, if_neg hk.1, lowK_cons]
    by_cases h : κ x < κ t
    · rw [if_neg (by omega), if_pos h, show (false || decide (κ t ≤ κ x)) = false by simp; omega, ih hs.2 hk.2]; simp
    · rw [if_pos ⟨rfl, by omega⟩, if_neg h, show (false || decide (κ t ≤ κ x)) = true by simp; omega, putGR_true, filter_over fun y hy => by have := hs.1 y hy; omega]; simp
theorem putGR_old (hs : l.Pairwise fun a b => κ a < κ b) (hk : isK κ (κ t) l = true) : putGR κ t l false = l.set (lowK κ (κ t) l) t := by
  induction l with
  | nil => simp [isK] at hk
  | cons x l ih =>
    rw [List.pairwise_cons] at hs
    rw [putGR, lowK_cons]
    by_cases h : κ x < κ t
    · rw [isK_cons, decide_eq_false (by omega), Bool.false_or] at hk
      rw [if_neg (by omega), if_neg (by omega), if_pos h, show (false || decide (κ t ≤ κ x)) = false by simp; omega, ih hs.2 hk]; rfl
    · rw [if_pos ⟨rfl, by omega⟩, if_neg h, show (false || decide (κ t ≤ κ x)) = true by simp; omega, putGR_true, filter_over fun y hy => by have := hs.1 y hy; omega]
      have hx : κ x = κ t := by
        refine Decidable.byContradiction fun h9 => ?_
        rw [isK_cons, decide_eq_false h9, Bool.false_or, isK_over fun y hy => by have := hs.1 y hy; omega] at hk
        cases hk
      rw [if_pos hx]; rfl
theorem filter_low {k : Int} (hs : l.Pairwise fun a b => κ a < κ b) (hk : isK κ k l = true) : (l.filter fun x => !decide (κ x = k)) = l.take (lowK κ k l) ++ l.drop (lowK κ k l + 1) := by
  induction l with
  | nil => simp [isK] at hk
  | cons x l ih =>
    rw [List.pairwise_cons] at hs
    rw [lowK_cons]
    by_cases h : κ x < k
    · rw [isK_cons, decide_eq_false (by omega), Bool.false_or] at hk
      rw [List.filter_cons_of_pos (by simp; omega), if_pos h, ih hs.2 hk]; rfl
    · have hx : κ x = k := by
        refine Decidable.byContradiction fun h9 => ?_
        rw [isK_cons, decide_eq_false h9, Bool.false_or, isK_over fun y hy => by have := hs.1 y hy; omega] at hk
        cases hk
      rw [List.filter_cons_of_neg (by simpa using hx), if_neg h, filter_over fun y hy => by have := hs.1 y hy; omega]; simp
theorem putGR_mem {y : α} (h : y ∈ putGR κ t l d) : (y = t ∧ d = false) ∨ (y ∈ l ∧ κ y ≠ κ t) := by
  induction l generalizing d with
  | nil => cases d <;> simp [putGR] at h; exact .inl ⟨h, rfl⟩
  | cons x l ih =>
    rw [putGR, List.mem_append, List.mem_append] at h
    rcases h with (h | h) | h
    · split at h
      · rename_i h1; exact .inl ⟨by simpa using h, h1.1⟩
      · cases h
    · split at h
      · cases h
      · rename_i h1
        have e : y = x := by simpa using h
        subst e
        exact .inr ⟨by simp, h1⟩
    · rcases ih h with ⟨h1, h2⟩ | ⟨h1, h2⟩
      · rw [Bool.or_eq_false_iff] at h2; exact .inl ⟨h1, h2.1⟩
      · exact .inr ⟨by simp [h1], h2⟩
theorem putGR_rise (hs : l.Pairwise fun a b => κ a < κ b) : (putGR κ t l d).Pairwise fun a b => κ a < κ b := by
  induction l generalizing d with
  | nil => cases d <;> simp [putGR]
  | cons x l ih =>
    rw [List.pairwise_cons] at hs
    have hf := hs.2.filter fun x => !decide (κ x = κ t)
    rw [putGR]
    by_cases hA : d = false ∧ κ t ≤ κ x
    · rw [if_pos hA, show (d || decide (κ t ≤ κ x)) = true by simp [hA.2], putGR_true]
      have h1 : ∀ y ∈ l.filter (fun x => !decide (κ x = κ t)), κ x < κ y := fun y hy => hs.1 y (List.mem_filter.1 hy).1
      split
      · rw [List.append_nil, List.singleton_append, List.pairwise_cons]
        exact ⟨fun y hy => by have := h1 y hy; omega, hf⟩
      · rename_i h2
        rw [List.append_assoc, List.singleton_append, List.singleton_append, List.pairwise_cons, List.pairwise_cons]
        refine ⟨fun y hy => ?_, h1, hf⟩
        rcases List.mem_cons.1 hy with rfl | hy
        · omega
        · have := h1 y hy; omega
    · rw [if_neg hA, List.nil_append]
      have ih2 := ih (d := d || decide (κ t ≤ κ x)) hs.2
      split
      · simpa using ih2
      · rename_i h2
        rw [List.singleton_append, List.pairwise_cons]
        refine ⟨fun y hy => ?_, ih2⟩
        rcases putGR_mem hy with ⟨rfl, h3⟩ | ⟨h3, _⟩
        · rw [Bool.or_eq_false_iff] at h3
          have := of_decide_eq_false h3.2
          omega
        · exact hs.1 y h3
end
/-- The list of a key. -/
def getO (os : List OrdD) (k : Int) : List Int := ((os.find? fun o => decide (o.key = k)).map OrdD.txs).getD []
theorem getO_cons {o : OrdD} {os : List OrdD} {k : Int} : getO (o :: os) k = if o.key = k then o.txs else getO os k := by
  unfold getO
  rw [List.find?_cons]
  by_cases h : o.key = k <;> simp [h]
theorem getO_none {os : List OrdD} {k : Int} (h : ∀ o ∈ os, o.key ≠ k) : getO os k = [] := by
  unfold getO
  rw [List.find?_eq_none.2 fun o ho => by simpa using h o ho]; rfl
theorem getO_mem {os : List OrdD} {o : OrdD} (hs : os.Pairwise fun a b => a.key < b.key) (h : o ∈ os) : getO os o.key = o.txs := by
  induction os with
  | nil => cases h
  | cons x os ih =>
    rw [List.pairwise_cons] at hs
    rw [getO_cons]
    rcases List.mem_cons.1 h with rfl | h
    · rw [if_pos rfl]
    · have := hs.1 o h
      rw [if_neg (by omega), ih hs.2 h]
theorem getO_in {os : List OrdD} {k : Int} (h : getO os k ≠ []) : (⟨k, getO os k⟩ : OrdD) ∈ os := by
  induction os with
  | nil => exact absurd rfl h
  | cons x os ih =>
    rw [getO_cons] at h ⊢
    by_cases e : x.key = k
    · rw [if_pos e]; subst e; simp
    · rw [if_neg e] at h ⊢; simp [ih h]
def NE (os : List OrdD) : Prop := ∀ o ∈ os, o.txs ≠ []
/-- What becomes of a key's list. -/
def listF (t : TxD) (l : List Int) (k : Int) : List Int := if t.done = true ∧ 0 < wcnt t.ops k then withO l t.id else withoutO l t.id
theorem getO_filter {os : List OrdD} (hs : os.Pairwise fun a b => a.key < b.key) (k : Int) : getO (os.filter fun o => !decide (o.txs = [])) k = getO os k := by
  induction os with
  | nil => rfl
  | cons x os ih =>
    rw [List.pairwise_cons] at hs
    rw [getO_cons]
    by_cases e : x.txs = []
    · rw [List.filter_cons_of_neg (by simpa using e), ih hs.2]
      split
      · rename_i hk
        rw [e, getO_none fun o ho => by have := hs.1 o ho; omega]
      · rfl
    · rw [List.filter_cons_of_pos (by simpa using e), getO_cons, ih hs.2]
theorem getO_map {t : TxD} {os : List OrdD} {k : Int} : getO (os.map (ordF t)) k = if isK OrdD.key k os = true then listF t (getO os k) k else [] := by
  induction os with
  | nil => simp [getO, isK]
  | cons x os ih =>
    rw [List.map_cons, getO_cons, getO_cons, isK_cons, ih]
    by_cases e : x.key = k
    · subst e
      rw [if_pos (show (ordF t x).key = x.key from rfl), if_pos rfl]
      simp [ordF, listF]
    · rw [if_neg (show ¬ (ordF t x).key = k from e), if_neg e, decide_eq_false e, Bool.false_or]
theorem getO_putK {k' k : Int} : ∀ {os : List OrdD}, (os.Pairwise fun a b => a.key < b.key) → getO (putK k' os) k = getO os k
  | [], _ => by unfold putK; rw [getO_cons]; split <;> rfl
  | x :: os, h => by
    rw [List.pairwise_cons] at h
    unfold putK
    split
    · rw [getO_cons, getO_cons, getO_putK h.2]
    · split
      · rfl
      · rw [getO_cons]
        split
        · rename_i h1 h2 h3
          have h3 : k' = k := h3
          subst h3
          refine (getO_none fun o ho => ?_).symm
          rcases List.mem_cons.1 ho with rfl | ho
          · exact h2
          · have := h.1 o ho; omega
        · rfl
theorem isK_putK {k' k : Int} : ∀ {os : List OrdD}, isK OrdD.key k (putK k' os) = (isK OrdD.key k os || decide (k' = k))
  | [] => by simp [putK, isK]
  | x :: os => by
    unfold putK
    split
    · rw [isK_cons, isK_cons, isK_putK, Bool.or_assoc]
    · split
      · rename_i h2
        rw [isK_cons]
        by_cases e : k' = k
        · simp [h2, e]
        · simp [e]
      · rw [isK_cons, Bool.or_comm]
theorem insF_get : ∀ (ks : List Int) {os : List OrdD} (k : Int), Rise OrdD.key os → getO (ks.foldl insK os) k = getO os k ∧ isK OrdD.key k (ks.foldl insK os) = (isK OrdD.key k os || decide (k ∈ ks))
  | [], os, k, _ => by simp
  | k' :: ks, os, k, h => by
    obtain ⟨h1, h2⟩ := insF_get ks k (insK_rise k' h)
    rw [List.foldl_cons, h1, h2, insK_put k' h, getO_putK (rise_iff.1 h), isK_putK]
    refine ⟨rfl, ?_⟩
    rw [Bool.or_assoc]
    congr 1
    rw [Bool.eq_iff_iff]
    simp only [Bool.or_eq_true, decide_eq_true_eq, List.mem_cons]
    exact ⟨fun h => h.elim (fun h => .inl h.symm) .inr, fun h => h.elim (fun h => .inl h.symm) .inr⟩
theorem isK_get {os : List OrdD} {k : Int} (h : isK OrdD.key k os = false) : getO os k = [] := by
  refine getO_none fun o ho e => ?_
  unfold isK at h
  rw [List.any_eq_false] at h
  exact h o ho (by simpa using e)
theorem settle_get {t : TxD} {os : List OrdD} (h : Rise OrdD.key os) (k : Int) : getO (settleO t os) k = listF t (getO os k) k := by
  unfold settleO
  have hins : getO (insS t os (keysT t)) k = getO os k ∧ isK OrdD.key k (insS t os (keysT t)) = (isK OrdD.key k os || (t.done && decide (k ∈ keysT t))) ∧ Rise OrdD.key (insS t os (keysT t)) := by
    unfold insS
    split
    · rename_i hd
      obtain ⟨h1, h2⟩ := insF_get (keysT t) k h
      refine ⟨h1, by rw [h2, hd, Bool.true_and], ?_⟩
      have key : ∀ (ks : List Int) (os : List OrdD), Rise OrdD.key os → Rise OrdD.key (ks.foldl insK os) := by
        intro ks
        induction ks with
        | nil => intro os h; exact h
        | cons k ks ih => intro os h; exact ih _ (insK_rise k h)
      exact key _ _ h
    · rename_i hd
      exact ⟨rfl, by simp [hd], h⟩
  obtain ⟨h1, h2, h3⟩ := hins
  have hm : ((insS t os (keysT t)).map (ordF t)).Pairwise fun a b => a.key < b.key := List.pairwise_map.2 ((rise_iff.1 h3).imp fun h => h)
  rw [getO_filter hm, getO_map, h1, h2]
  split
  · rfl
  · rename_i hk
    simp only [Bool.or_eq_true, not_or, Bool.and_eq_true, decide_eq_true_eq] at hk
    have hk1 : isK OrdD.key k os = false := by simpa using hk.1
    rw [isK_get hk1]
    unfold listF
    rw [if_neg fun h9 => hk.2 ⟨h9.1, keysT_mem.2 h9.2⟩]; rfl
theorem settle_rise {t : TxD} {os : List OrdD} (h : Rise OrdD.key os) (hs : SmallO os) : (settleO t os).Pairwise (fun a b => a.key < b.key) ∧ NE (settleO t os) := by
  have h3 := (insS_facts (t := t) h hs (keysT t)).1
  have hm : ((insS t os (keysT t)).map (ordF t)).Pairwise fun a b => a.key < b.key := List.pairwise_map.2 ((rise_iff.1 h3).imp fun h => h)
  refine ⟨hm.filter _, fun o ho => ?_⟩
  have := (List.mem_filter.1 ho).2
  simpa using this
theorem getO_put {o : OrdD} {os : List OrdD} {d : Bool} (hs : os.Pairwise fun a b => a.key < b.key) (k : Int) : getO (putGR OrdD.key o os d) k = if k = o.key then (if d = true then [] else o.txs) else getO os k := by
  have hf : ∀ os : List OrdD, getO (os.filter fun x => !decide (x.key = o.key)) k = if k = o.key then [] else getO os k := by
    intro os
    induction os with
    | nil => split <;> rfl
    | cons x os ih =>
      by_cases e : x.key = o.key
      · rw [List.filter_cons_of_neg (by simpa using e), ih, getO_cons]
        split
        · rfl
        · rename_i h; rw [if_neg (by omega)]
      · rw [List.filter_cons_of_pos (by simpa using e), getO_cons, getO_cons, ih]
        split
        · rename_i h; rw [if_neg (by omega)]
        · rfl
  cases d with
  | true => rw [putGR_true, hf]; simp
  | false =>
    simp only [Bool.false_eq_true, if_false]
    induction os with
    | nil =>
      show getO [o] k = _
      rw [getO_cons]
      by_cases e : o.key = k
      · rw [if_pos e, if_pos e.symm]
      · rw [if_neg e, if_neg fun h => e h.symm]
    | cons x os ih =>
      rw [List.pairwise_cons] at hs
      rw [putGR]
      by_cases hA : o.key ≤ x.key
      · rw [if_pos ⟨rfl, hA⟩, show (false || decide (o.key ≤ x.key)) = true by simp [hA], putGR_true, List.append_assoc, List.singleton_append, getO_cons]
        by_cases e : o.key = k
        · rw [if_pos e, if_pos e.symm]
        · have e' : ¬ k = o.key := fun h => e h.symm
          rw [if_neg e, if_neg e', getO_cons]
          by_cases e2 : x.key = o.key
          · rw [if_pos e2, List.nil_append, hf, if_neg e', if_neg (show ¬ x.key = k by omega)]
          · rw [if_neg e2, List.singleton_append, getO_cons, hf, if_neg e']
      · rw [if_neg fun h => hA h.2, if_neg (by omega), List.nil_append, List.singleton_append, show (false || decide (o.key ≤ x.key)) = false by simp; omega, getO_cons, getO_cons, ih hs.2]
        split
        · rename_i h; rw [if_neg (by omega)]
        · rfl
end Go.Proofs.YtcfgcpcakdknkaaGreat
