/- Bags of edges: the plain law. No condition beyond those that each theorem says. -/
import Derived.Test.YtfdjjfplhdpclaaPk1
import Derived.Test.YtfdjjfplhdpclaaLibG
import Derived.Test.YtfdjjfplhdpclaaLibE
namespace Go.Proofs.Ytfdjjfplhdpclaa
open Go Go.Gm
set_option linter.unusedVariables false
set_option linter.unusedSimpArgs false
set_option maxHeartbeats 4000000
set_option maxRecDepth 8000


theorem inR0 : inR .i64 0 := by show IntKind.min .i64 ≤ 0 ∧ 0 ≤ IntKind.max .i64; decide

theorem edgeR_no {e : EdgeD} (h : rightB e = false) : edgeR e = (0, 1) := by unfold edgeR; rw [h]; rfl
theorem edgeR_yes {e : EdgeD} (h : rightB e = true) : edgeR e = (edgeN e, 0) := if_pos h
theorem eqE (d e : EdgeD) : (decide (d.src = e.src) && (decide (d.dst = e.dst) && (decide (d.kind = e.kind) && (decide (d.key = e.key) && true)))) = decide (d = e) := by
  cases d; cases e
  rw [Bool.eq_iff_iff]
  simp
theorem unedge_edge {e : EdgeD} (h : rightB e = true) : unedgeR (edgeN e) = (e, 0) := by
  have hb := rightB_iff.1 h
  have he : edgeOf (edgeN e) = e := by
    obtain ⟨s, d, k, y⟩ := e
    simp only [edgeOf, edgeN, EdgeD.mk.injEq]
    simp only at hb
    omega
  unfold unedgeR
  rw [if_neg (by unfold edgeN; omega), he, if_pos h]
theorem num_inj {d e : EdgeD} (h : rightB d = true) (h2 : rightB e = true) : (edgeN d = edgeN e) ↔ d = e := by
  refine ⟨fun g => ?_, fun g => by rw [g]⟩
  have h3 := unedge_edge h
  rw [g, unedge_edge h2] at h3
  exact (congrArg Prod.fst h3).symm

def Rise {α : Type} [Inhabited α] (κ : α → Int) (l : List α) : Prop := ∀ a b, a < b → b < l.length → κ (Go.Gm.nth l a) < κ (Go.Gm.nth l b)
def lowK {α : Type} (κ : α → Int) (k : Int) (l : List α) : Nat := (l.takeWhile fun x => decide (κ x < k)).length
theorem lowK_eq {α : Type} [Inhabited α] {κ : α → Int} {k : Int} : ∀ {l : List α} {i : Nat}, i ≤ l.length → (∀ q, q < i → κ (Go.Gm.nth l q) < k) → (∀ q, i ≤ q → q < l.length → k ≤ κ (Go.Gm.nth l q)) → lowK κ k l = i
  | [], i, hi, _, _ => by simp at hi; subst hi; rfl
  | x :: l, 0, _, _, h2 => by
    have := h2 0 (Nat.le_refl _) (by simp)
    rw [nth_eq (by simp)] at this
    unfold lowK
    rw [List.takeWhile_cons_of_neg (by simpa using this)]; rfl
  | x :: l, i + 1, hi, h1, h2 => by
    have hx := h1 0 (by omega)
    rw [nth_eq (by simp)] at hx
    have ih := lowK_eq (κ := κ) (k := k) (l := l) (i := i) (by simpa using hi) (fun q hq => by
      have := h1 (q + 1) (by omega)
      rw [nth_eq (by simp at hi ⊢; omega)] at this
      rw [nth_eq (by simp at hi; omega)]; simpa using this) (fun q hq hq2 => by
      have := h2 (q + 1) (by omega) (by simp; omega)
      rw [nth_eq (by simp; omega)] at this
      rw [nth_eq hq2]; simpa using this)
    unfold lowK at ih ⊢
    rw [List.takeWhile_cons_of_pos (by simpa using hx), List.length_cons, ih]
theorem rise_le {α : Type} [Inhabited α] {κ : α → Int} {l : List α} (hs : Rise κ l) {a b : Nat} (h : a ≤ b) (hb : b < l.length) : κ (Go.Gm.nth l a) ≤ κ (Go.Gm.nth l b) := by
  rcases Nat.lt_or_eq_of_le h with h | h
  · exact Int.le_of_lt (hs a b h hb)
  · subst h; exact Int.le_refl _

def rU64 (x : Int) : List PV := [.int .u64 x]
/-- Edges, each with how often there is a reason for it. -/
structure HvD where
  edge : EdgeD
  cnt : Int
  deriving DecidableEq, Inhabited
def rHv (x : HvD) : List PV := [.int .i64 x.edge.src, .int .i64 x.edge.dst, .int .i64 x.edge.kind, .int .i64 x.edge.key, .int .i64 x.cnt]
def ltE (a b : EdgeD) : Bool := decide (a.src < b.src ∨ a.src = b.src ∧ (a.kind < b.kind ∨ a.kind = b.kind ∧ (a.key < b.key ∨ a.key = b.key ∧ a.dst < b.dst)))
theorem ltE_num {d e : EdgeD} (h : rightB d = true) (h2 : rightB e = true) : ltE d e = decide (edgeN d < edgeN e) := by
  have hb := rightB_iff.1 h
  have hc := rightB_iff.1 h2
  unfold ltE edgeN
  rw [decide_eq_decide]
  omega
theorem edgeN_bd {e : EdgeD} (h : rightB e = true) : 0 ≤ edgeN e ∧ edgeN e ≤ 18446744073709551615 := by
  have hb := rightB_iff.1 h
  unfold edgeN
  omega
theorem edgeN_in {e : EdgeD} (h : rightB e = true) : inR .u64 (edgeN e) := by
  have := edgeN_bd h
  simp [inR, IntKind.min, IntKind.max, IntKind.signed, IntKind.bits]; omega
abbrev IncI (l : List Int) : Prop := l.Pairwise (· < ·)
theorem inc_ext : ∀ {a b : List Int}, IncI a → IncI b → (∀ x, x ∈ a ↔ x ∈ b) → a = b
  | [], [], _, _, _ => rfl
  | [], y :: b, _, _, h => by have := (h y).2 (by simp); cases this
  | x :: a, [], _, _, h => by have := (h x).1 (by simp); cases this
  | x :: a, y :: b, ha, hb, h => by
    have ha' := List.pairwise_cons.1 ha
    have hb' := List.pairwise_cons.1 hb
    have e : x = y := by
      rcases List.mem_cons.1 ((h x).1 (by simp)) with e | e
      · exact e
      · rcases List.mem_cons.1 ((h y).2 (by simp)) with e2 | e2
        · exact e2.symm
        · have := ha'.1 y e2; have := hb'.1 x e; omega
    subst e
    congr 1
    refine inc_ext ha'.2 hb'.2 fun z => ⟨fun hz => ?_, fun hz => ?_⟩
    · rcases List.mem_cons.1 ((h z).1 (List.mem_cons_of_mem _ hz)) with e | e
      · subst e; have := ha'.1 z hz; omega
      · exact e
    · rcases List.mem_cons.1 ((h z).2 (List.mem_cons_of_mem _ hz)) with e | e
      · subst e; have := hb'.1 z hz; omega
      · exact e
/-- A number among rising ones, or not. -/
def setN (l : List Int) (x : Int) (on : Bool) : List Int := (l.filter fun y => decide (y < x)) ++ ((if on = true then [x] else []) ++ l.filter fun y => decide (x < y))
theorem mem_setN {l : List Int} {x : Int} {on : Bool} {y : Int} : y ∈ setN l x on ↔ (y ∈ l ∧ y ≠ x) ∨ (y = x ∧ on = true) := by
  unfold setN
  rw [List.mem_append, List.mem_append, List.mem_filter, List.mem_filter, decide_eq_true_eq, decide_eq_true_eq]
  by_cases hy : y ∈ l <;> cases on <;> simp [hy] <;> omega
theorem setN_inc {l : List Int} (h : IncI l) (x : Int) (on : Bool) : IncI (setN l x on) := by
  unfold setN
  refine List.pairwise_append.2 ⟨h.filter _, List.pairwise_append.2 ⟨?_, h.filter _, ?_⟩, ?_⟩
  · cases on <;> simp
  · intro a ha b hb
    rw [List.mem_filter, decide_eq_true_eq] at hb
    cases on <;> simp at ha
    subst ha; exact hb.2
  · intro a ha b hb
    rw [List.mem_filter, decide_eq_true_eq] at ha
    rw [List.mem_append, List.mem_filter, decide_eq_true_eq] at hb
    rcases hb with hb | hb
    · cases on <;> simp at hb
      subst hb; exact ha.2
    · omega
theorem setN_len (l : List Int) (x : Int) (on : Bool) : (setN l x on).length ≤ 2 * l.length + 1 := by
  unfold setN
  have h1 := List.length_filter_le (fun y => decide (y < x)) l
  have h2 := List.length_filter_le (fun y => decide (x < y)) l
  rw [List.length_append, List.length_append]
  cases on <;> simp <;> omega
theorem setN_same {l : List Int} (h : IncI l) {x : Int} {on : Bool} (hx : on = decide (x ∈ l)) : setN l x on = l := inc_ext (setN_inc h x on) h fun y => by
  rw [mem_setN, hx, decide_eq_true_eq]
  constructor
  · rintro (h | ⟨rfl, h⟩)
    · exact h.1
    · exact h
  · intro hy
    by_cases e : y = x
    · exact .inr ⟨e, e ▸ hy⟩
    · exact .inl ⟨hy, e⟩
abbrev lowI (k : Int) (l : List Int) : Nat := lowK (fun x : Int => x) k l
theorem lowI_split : ∀ {l : List Int}, IncI l → ∀ k : Int, l.take (lowI k l) = (l.filter fun y => decide (y < k)) ∧ l.drop (lowI k l) = l.filter fun y => decide (k ≤ y)
  | [], _, k => by simp
  | x :: l, h, k => by
    have h' := List.pairwise_cons.1 h
    have ih := lowI_split h'.2 k
    unfold lowI lowK at *
    by_cases hx : x < k
    · rw [List.takeWhile_cons_of_pos (by simpa using hx), List.length_cons, List.take_succ_cons, List.drop_succ_cons, ih.1, ih.2, List.filter_cons_of_pos (by simpa using hx), List.filter_cons_of_neg (by simp; omega)]
      exact ⟨rfl, rfl⟩
    · rw [List.takeWhile_cons_of_neg (by simpa using hx)]
      simp only [List.length_nil, List.take_zero, List.drop_zero]
      refine ⟨?_, ?_⟩
      · rw [List.filter_eq_nil_iff.2]
        intro y hy
        rcases List.mem_cons.1 hy with e | hy
        · subst e; simpa using hx
        · have := h'.1 y hy; simp; omega
      · rw [List.filter_eq_self.2]
        intro y hy
        rcases List.mem_cons.1 hy with e | hy
        · subst e; simp; omega
        · have := h'.1 y hy; simp; omega
theorem ins_set {l : List Int} (h : IncI l) {x : Int} (hx : x ∉ l) : l.take (lowI x l) ++ [x] ++ l.drop (lowI x l) = setN l x true := by
  rw [(lowI_split h x).1, (lowI_split h x).2, List.append_assoc]
  unfold setN
  rw [if_pos rfl]
  congr 2
  refine List.filter_congr fun y hy => ?_
  rw [decide_eq_decide]
  have : y ≠ x := fun e => hx (e ▸ hy)
  omega
theorem low_in {l : List Int} (h : IncI l) {x : Int} (hx : x ∈ l) : lowI x l < l.length ∧ l.take (lowI x l) ++ l.drop (lowI x l + 1) = setN l x false := by
  have hd := (lowI_split h x).2
  have hm : x ∈ l.drop (lowI x l) := by rw [hd, List.mem_filter]; exact ⟨hx, by simp⟩
  have hlt : lowI x l < l.length := by
    have := List.length_pos_of_mem hm
    rw [List.length_drop] at this; omega
  refine ⟨hlt, ?_⟩
  have hinc : IncI (l.drop (lowI x l)) := h.sublist (List.drop_sublist _ _)
  have h0 : l.drop (lowI x l) = l[lowI x l] :: l.drop (lowI x l + 1) := List.drop_eq_getElem_cons hlt
  have hx0 : l[lowI x l] = x := by
    rw [h0] at hm hinc
    have h' := List.pairwise_cons.1 hinc
    rcases List.mem_cons.1 hm with e | e
    · exact e.symm
    · have h1 := h'.1 x e
      have h2 : l[lowI x l] ∈ l.drop (lowI x l) := by
        have h9 : l[lowI x l] ∈ l[lowI x l] :: l.drop (lowI x l + 1) := List.mem_cons_self
        rw [← h0] at h9; exact h9
      rw [hd, List.mem_filter, decide_eq_true_eq] at h2
      omega
  rw [(lowI_split h x).1]
  unfold setN
  rw [if_neg (by decide), List.nil_append]
  congr 1
  refine inc_ext (h.sublist (List.drop_sublist _ _)) (h.filter _) fun y => ?_
  rw [List.mem_filter, decide_eq_true_eq]
  have hy : y ∈ l.drop (lowI x l) ↔ y = x ∨ y ∈ l.drop (lowI x l + 1) := by rw [h0, hx0]; exact List.mem_cons
  have h2 : y ∈ l.drop (lowI x l) ↔ y ∈ l ∧ x ≤ y := by rw [hd, List.mem_filter, decide_eq_true_eq]
  have h' : ∀ z ∈ l.drop (lowI x l + 1), x < z := by
    rw [h0, hx0] at hinc
    exact (List.pairwise_cons.1 hinc).1
  constructor
  · intro h9
    exact ⟨(h2.1 (hy.2 (.inr h9))).1, h' y h9⟩
  · rintro ⟨h8, h9⟩
    rcases hy.1 (h2.2 ⟨h8, by omega⟩) with e | e
    · omega
    · exact e
/-- Bags. -/
structure BagOk (B : List HvD) : Prop where
  inc : B.Pairwise fun x y => edgeN x.edge < edgeN y.edge
  right : ∀ x ∈ B, rightB x.edge = true
  pos : ∀ x ∈ B, 1 ≤ x.cnt ∧ x.cnt ≤ 2147483647
theorem BagOk.nil : BagOk [] := ⟨List.Pairwise.nil, by simp, by simp⟩
def cntB (B : List HvD) (e : EdgeD) : Int := match B.find? (fun x => decide (x.edge = e)) with
  | some x => x.cnt
  | none => 0
theorem cntB_no {B : List HvD} {e : EdgeD} (h : ∀ x ∈ B, x.edge ≠ e) : cntB B e = 0 := by
  unfold cntB
  rw [List.find?_eq_none.2 (by intro x hx; simpa using h x hx)]
theorem BagOk.uniq {B : List HvD} (h : BagOk B) : ∀ {x y : HvD}, x ∈ B → y ∈ B → x.edge = y.edge → x = y := by
  have hi := h.inc
  clear h
  induction B with
  | nil => intro x y hx; cases hx
  | cons z B ih =>
    have h' := List.pairwise_cons.1 hi
    intro x y hx hy e
    rcases List.mem_cons.1 hx with hx1 | hx1 <;> rcases List.mem_cons.1 hy with hy1 | hy1
    · rw [hx1, hy1]
    · have := h'.1 y hy1; rw [← hx1, e] at this; omega
    · have := h'.1 x hx1; rw [← hy1, e] at this; omega
    · exact ih h'.2 hx1 hy1 e
theorem cntB_mem {B : List HvD} (h : BagOk B) {x : HvD} (hx : x ∈ B) : cntB B x.edge = x.cnt := by
  unfold cntB
  cases hf : B.find? (fun y => decide (y.edge = x.edge)) with
  | none => have := List.find?_eq_none.1 hf x hx; simp at this
  | some y =>
    have h1 : y.edge = x.edge := by have := List.find?_some hf; simpa using this
    rw [h.uniq (List.mem_of_find?_eq_some hf) hx h1]
theorem cntB_bd {B : List HvD} (h : BagOk B) (e : EdgeD) : 0 ≤ cntB B e ∧ cntB B e ≤ 2147483647 := by
  by_cases hx : ∃ x ∈ B, x.edge = e
  · obtain ⟨x, hx, rfl⟩ := hx
    rw [cntB_mem h hx]
    have := h.pos x hx
    omega
  · rw [cntB_no fun x hx' e' => hx ⟨x, hx', e'⟩]; omega
theorem cntB_pos {B : List HvD} (h : BagOk B) {e : EdgeD} (hc : cntB B e ≠ 0) : (⟨e, cntB B e⟩ : HvD) ∈ B := by
  apply Decidable.byContradiction
  intro hn
  apply hc
  apply cntB_no
  intro x hx he
  subst he
  rw [cntB_mem h hx] at hn
  exact hn hx
def putB (B : List HvD) (e : EdgeD) (n : Int) : List HvD := (B.filter fun x => decide (edgeN x.edge < edgeN e)) ++ ((if n = 0 then [] else [⟨e, n⟩]) ++ B.filter fun x => decide (edgeN e < edgeN x.edge))
theorem mem_putB {B : List HvD} (h : BagOk B) {e : EdgeD} (he : rightB e = true) {n : Int} {x : HvD} : x ∈ putB B e n ↔ (x ∈ B ∧ x.edge ≠ e) ∨ (x = ⟨e, n⟩ ∧ n ≠ 0) := by
  unfold putB
  rw [List.mem_append, List.mem_append, List.mem_filter, List.mem_filter, decide_eq_true_eq, decide_eq_true_eq]
  have hx : x ∈ B → (x.edge = e ↔ ¬ (edgeN x.edge < edgeN e) ∧ ¬ (edgeN e < edgeN x.edge)) := fun hb => by
    rw [← num_inj (h.right x hb) he]; omega
  by_cases hn : n = 0
  · simp only [hn, if_true, List.not_mem_nil, false_or]
    constructor
    · rintro (⟨h1, h2⟩ | ⟨h1, h2⟩)
      · exact .inl ⟨h1, fun e' => ((hx h1).1 e').1 h2⟩
      · exact .inl ⟨h1, fun e' => ((hx h1).1 e').2 h2⟩
    · rintro (⟨h1, h2⟩ | ⟨_, h2⟩)
      · by_cases h3 : edgeN x.edge < edgeN e
        · exact .inl ⟨h1, h3⟩
        · exact .inr ⟨h1, by
            apply Decidable.byContradiction
            intro h4
            exact h2 ((hx h1).2 ⟨h3, h4⟩)⟩
      · exact absurd rfl h2
  · simp only [hn, if_false, List.mem_singleton]
    constructor
    · rintro (⟨h1, h2⟩ | h1 | ⟨h1, h2⟩)
      · exact .inl ⟨h1, fun e' => ((hx h1).1 e').1 h2⟩
      · exact .inr ⟨h1, hn⟩
      · exact .inl ⟨h1, fun e' => ((hx h1).1 e').2 h2⟩
    · rintro (⟨h1, h2⟩ | ⟨h1, _⟩)
      · by_cases h3 : edgeN x.edge < edgeN e
        · exact .inl ⟨h1, h3⟩
        · exact .inr (.inr ⟨h1, by
            apply Decidable.byContradiction
            intro h4
            exact h2 ((hx h1).2 ⟨h3, h4⟩)⟩)
      · exact .inr (.inl h1)
theorem putB_ok {B : List HvD} (h : BagOk B) {e : EdgeD} (he : rightB e = true) {n : Int} (hn : 0 ≤ n ∧ n ≤ 2147483647) : BagOk (putB B e n) where
  inc := by
    unfold putB
    refine List.pairwise_append.2 ⟨h.inc.filter _, List.pairwise_append.2 ⟨?_, h.inc.filter _, ?_⟩, ?_⟩
    · split <;> simp
    · intro a ha b hb
      rw [List.mem_filter, decide_eq_true_eq] at hb
      split at ha
      · cases ha
      · rw [List.mem_singleton] at ha
        subst ha; exact hb.2
    · intro a ha b hb
      rw [List.mem_filter, decide_eq_true_eq] at ha
      rw [List.mem_append, List.mem_filter, decide_eq_true_eq] at hb
      rcases hb with hb | hb
      · split at hb
        · cases hb
        · rw [List.mem_singleton] at hb
          subst hb; exact ha.2
      · omega
  right x hx := by
    rcases (mem_putB h he).1 hx with h1 | ⟨rfl, _⟩
    · exact h.right x h1.1
    · exact he
  pos x hx := by
    rcases (mem_putB h he).1 hx with h1 | ⟨rfl, h2⟩
    · exact h.pos x h1.1
    · show 1 ≤ n ∧ n ≤ 2147483647; omega
theorem cntB_put {B : List HvD} (h : BagOk B) {e : EdgeD} (he : rightB e = true) {n : Int} (hn : 0 ≤ n ∧ n ≤ 2147483647) (d : EdgeD) : cntB (putB B e n) d = if d = e then n else cntB B d := by
  have h2 := putB_ok h he hn
  by_cases hd : d = e
  · subst hd
    rw [if_pos rfl]
    by_cases hz : n = 0
    · subst hz
      apply cntB_no
      intro x hx e'
      rcases (mem_putB h he).1 hx with h1 | ⟨_, h1⟩
      · exact h1.2 e'
      · exact h1 rfl
    · exact cntB_mem h2 (x := ⟨d, n⟩) ((mem_putB h he).2 (.inr ⟨rfl, hz⟩))
  · rw [if_neg hd]
    by_cases hx : ∃ x ∈ B, x.edge = d
    · obtain ⟨x, hx, rfl⟩ := hx
      rw [cntB_mem h hx]
      exact cntB_mem h2 ((mem_putB h he).2 (.inl ⟨hx, hd⟩))
    · rw [cntB_no fun x hx' e' => hx ⟨x, hx', e'⟩]
      apply cntB_no
      intro x hx' e'
      rcases (mem_putB h he).1 hx' with h1 | ⟨rfl, _⟩
      · exact hx ⟨x, h1.1, e'⟩
      · exact hd e'.symm
theorem putB_len (B : List HvD) (e : EdgeD) (n : Int) (h : BagOk B) (he : rightB e = true) : (putB B e n).length ≤ B.length + 1 := by
  unfold putB
  rw [List.length_append, List.length_append]
  have key : ∀ L : List HvD, (L.filter fun x => decide (edgeN x.edge < edgeN e)).length + (L.filter fun x => decide (edgeN e < edgeN x.edge)).length ≤ L.length := by
    intro L
    induction L with
    | nil => simp
    | cons z L ih =>
      rw [List.filter_cons, List.filter_cons]
      by_cases h1 : edgeN z.edge < edgeN e
      · have h2 : ¬ edgeN e < edgeN z.edge := by omega
        simp [h1, h2]; omega
      · by_cases h2 : edgeN e < edgeN z.edge <;> simp [h1, h2] <;> omega
  have := key B
  split <;> simp <;> omega
/-- Numbers of some edges. -/
def numsOf (p : EdgeD → Bool) (B : List HvD) : List Int := (B.filter fun x => p x.edge).map fun x => edgeN x.edge
theorem nums_inc {p : EdgeD → Bool} {B : List HvD} (h : BagOk B) : IncI (numsOf p B) := by
  unfold numsOf
  rw [IncI, List.pairwise_map]
  exact h.inc.filter _
theorem nums_len (p : EdgeD → Bool) (B : List HvD) : (numsOf p B).length ≤ B.length := by
  unfold numsOf
  rw [List.length_map]
  exact List.length_filter_le _ _
theorem mem_nums {p : EdgeD → Bool} {B : List HvD} {y : Int} : y ∈ numsOf p B ↔ ∃ x ∈ B, p x.edge = true ∧ edgeN x.edge = y := by
  unfold numsOf
  rw [List.mem_map]
  constructor
  · rintro ⟨x, hx, h⟩; rw [List.mem_filter] at hx; exact ⟨x, hx.1, hx.2, h⟩
  · rintro ⟨x, h1, h2, h3⟩; exact ⟨x, List.mem_filter.2 ⟨h1, h2⟩, h3⟩
theorem nums_put {p : EdgeD → Bool} {B : List HvD} (h : BagOk B) {e : EdgeD} (he : rightB e = true) {n : Int} (hn : 0 ≤ n ∧ n ≤ 2147483647) : numsOf p (putB B e n) = if p e = true then setN (numsOf p B) (edgeN e) (decide (0 < n)) else numsOf p B := by
  have h2 := putB_ok h he hn
  have hi : ∀ x ∈ B, (edgeN x.edge = edgeN e ↔ x.edge = e) := fun x hx => num_inj (h.right x hx) he
  by_cases hp : p e = true
  · rw [if_pos hp]
    refine inc_ext (nums_inc h2) (setN_inc (nums_inc h) _ _) fun y => ?_
    rw [mem_setN, mem_nums, mem_nums]
    constructor
    · rintro ⟨x, h1, h3, rfl⟩
      rcases (mem_putB h he).1 h1 with h4 | ⟨rfl, h4⟩
      · exact .inl ⟨⟨x, h4.1, h3, rfl⟩, fun e' => h4.2 ((hi x h4.1).1 e')⟩
      · exact .inr ⟨rfl, decide_eq_true (by omega)⟩
    · rintro (⟨⟨x, h1, h3, rfl⟩, h4⟩ | ⟨rfl, h4⟩)
      · exact ⟨x, (mem_putB h he).2 (.inl ⟨h1, fun e' => h4 ((hi x h1).2 e')⟩), h3, rfl⟩
      · exact ⟨⟨e, n⟩, (mem_putB h he).2 (.inr ⟨rfl, by have := of_decide_eq_true h4; omega⟩), hp, rfl⟩
  · rw [if_neg hp]
    refine inc_ext (nums_inc h2) (nums_inc h) fun y => ?_
    rw [mem_nums, mem_nums]
    constructor
    · rintro ⟨x, h1, h3, rfl⟩
      rcases (mem_putB h he).1 h1 with h4 | ⟨rfl, h4⟩
      · exact ⟨x, h4.1, h3, rfl⟩
      · exact absurd h3 hp
    · rintro ⟨x, h1, h3, rfl⟩
      exact ⟨x, (mem_putB h he).2 (.inl ⟨h1, fun e' => hp (e' ▸ h3)⟩), h3, rfl⟩
/-- What is counted. -/
structure CntM (es : List (GE Int Int)) (B : List HvD) : Prop where
  nd : GNd es
  mem : ∀ k, k ∈ es.map (·.key) ↔ k ∈ numsOf (fun _ => true) B
  val : ∀ e, rightB e = true → (gGet (edgeN e) es).getD 0 = cntB B e
theorem CntM.nil : CntM [] [] := ⟨List.nodup_nil, fun k => by simp [numsOf], fun e _ => rfl⟩
theorem gDel_keys {k : Int} {es : List (GE Int Int)} (h : GNd es) (j : Int) : j ∈ (gDel k es).map (·.key) ↔ j ∈ es.map (·.key) ∧ j ≠ k := by
  rw [← gGet_mem, ← gGet_mem, gGet_del h]
  by_cases e : j = k <;> simp [e]
theorem CntM.put {es : List (GE Int Int)} {B : List HvD} {ck : Nat} (hB : BagOk B) (h : CntM es B) {e : EdgeD} (he : rightB e = true) {n : Int} (hn : 1 ≤ n ∧ n ≤ 2147483647) : CntM (gPut (edgeN e) n (es, ck)).1 (putB B e n) where
  nd := h.nd.put
  mem k := by
    have hm := h.mem k
    rw [nums_put hB he (by omega), if_pos rfl, mem_setN, ← hm, ← gGet_mem, ← gGet_mem, gGet_put, decide_eq_true (show 0 < n by omega)]
    by_cases e' : k = edgeN e <;> simp [e']
  val d hd := by
    rw [gGet_put, cntB_put hB he (by omega)]
    by_cases e' : d = e
    · subst e'; simp
    · rw [if_neg (fun k => e' ((num_inj hd he).1 k)), if_neg e']
      exact h.val d hd
theorem CntM.del {es : List (GE Int Int)} {B : List HvD} {ck : Nat} (hB : BagOk B) (h : CntM es B) {e : EdgeD} (he : rightB e = true) (n : Int) : CntM (gDel (edgeN e) (gPut (edgeN e) n (es, ck)).1) (putB B e 0) where
  nd := (h.nd.put (s := (es, ck))).del
  mem k := by
    have hm := h.mem k
    rw [nums_put hB he (by omega), if_pos rfl, mem_setN, ← hm, ← gGet_mem, ← gGet_mem, gGet_del (h.nd.put (s := (es, ck))), gGet_put]
    by_cases e' : k = edgeN e <;> simp [e']
  val d hd := by
    rw [gGet_del (h.nd.put (s := (es, ck))), gGet_put, cntB_put hB he (by omega)]
    by_cases e' : d = e
    · subst e'; simp
    · have e2 := fun k => e' ((num_inj hd he).1 k)
      rw [if_neg e2, if_neg e2, if_neg e']
      exact h.val d hd
theorem nodup_perm {l m : List Int} (h1 : l.Nodup) (h2 : m.Nodup) (h : ∀ x, x ∈ l ↔ x ∈ m) : l.Perm m := (List.perm_ext_iff_of_nodup h1 h2).2 h
theorem CntM.len {es : List (GE Int Int)} {B : List HvD} (hB : BagOk B) (h : CntM es B) : es.length = B.length := by
  have h1 : (es.map (·.key)).Perm (numsOf (fun _ => true) B) := nodup_perm h.nd ((nums_inc hB).imp fun h => by omega) h.mem
  have := h1.length_eq
  rw [List.length_map] at this
  rw [this]; unfold numsOf; simp
theorem CntM.inr {es : List (GE Int Int)} {B : List HvD} (hB : BagOk B) (h : CntM es B) : ∀ e ∈ es, inR .u64 e.key := fun e he => by
  have := (h.mem e.key).1 (List.mem_map.2 ⟨e, he, rfl⟩)
  obtain ⟨x, hx, _, h2⟩ := mem_nums.1 this
  rw [← h2]; exact edgeN_in (hB.right x hx)
abbrev leI (x y : Int) : Bool := decide (x ≤ y)
theorem sorted_keys {es : List (GE Int Int)} {B : List HvD} (hB : BagOk B) (h : CntM es B) {l : List Int} (hl : l.Perm (es.map (·.key))) : l.mergeSort leI = numsOf (fun _ => true) B := by
  have hp : (l.mergeSort leI).Perm (es.map (·.key)) := (List.mergeSort_perm l leI).trans hl
  have hs : (l.mergeSort leI).Pairwise fun a b => leI a b = true := List.pairwise_mergeSort (fun a b c h1 h2 => by simp [leI] at *; omega) (fun a b => by simp [leI]; omega) l
  have hn : (l.mergeSort leI).Nodup := hp.nodup_iff.2 h.nd
  refine inc_ext ?_ (nums_inc hB) fun x => by rw [hp.mem_iff]; exact h.mem x
  have h2 := hs.and hn
  exact h2.imp fun {a b} k => by have h3 : a ≤ b := by simpa [leI] using k.1
                                 have h4 : a ≠ b := k.2
                                 show a < b; omega
/-- Edges of numbers. -/
theorem unedge_num {e : EdgeD} (h : rightB e = true) : (unedgeR (edgeN e)).1 = e := by rw [unedge_edge h]
def heavyL (l : List Int) (es : List (GE Int Int)) : List HvD := l.map fun x => ⟨(unedgeR x).1, (gGet x es).getD 0⟩
theorem heavy_nums {p : EdgeD → Bool} {es : List (GE Int Int)} {B : List HvD} (hB : BagOk B) (h : CntM es B) : heavyL (numsOf p B) es = B.filter fun x => p x.edge := by
  unfold heavyL numsOf
  rw [List.map_map]
  conv => rhs; rw [← List.map_id (B.filter fun x => p x.edge)]
  refine List.map_congr_left fun x hx => ?_
  have hx' := (List.mem_filter.1 hx).1
  show (⟨(unedgeR (edgeN x.edge)).1, _⟩ : HvD) = x
  rw [unedge_num (hB.right x hx'), h.val _ (hB.right x hx'), cntB_mem hB hx']
/-- What is added. -/
def addB (B : List HvD) (e : EdgeD) (n : Int) : List HvD × Int := if rightB e = true then (if n < - cntB B e then (B, 3) else if 2147483647 - cntB B e < n then (B, 2) else (putB B e (cntB B e + n), 0)) else (B, 1)
theorem addB_ok {B : List HvD} (h : BagOk B) (e : EdgeD) (n : Int) : BagOk (addB B e n).1 := by
  unfold addB
  split
  · rename_i he
    split
    · exact h
    · split
      · exact h
      · exact putB_ok h he (by omega)
  · exact h
theorem addB_len {B : List HvD} (h : BagOk B) (e : EdgeD) (n : Int) : (addB B e n).1.length ≤ B.length + 1 := by
  unfold addB
  split
  · rename_i he
    split
    · exact Nat.le_succ _
    · split
      · exact Nat.le_succ _
      · exact putB_len B e _ h he
  · exact Nat.le_succ _
def ofB (l : List HvD) : List HvD := l.foldl (fun B x => (addB B x.edge x.cnt).1) []

end Go.Proofs.Ytfdjjfplhdpclaa
