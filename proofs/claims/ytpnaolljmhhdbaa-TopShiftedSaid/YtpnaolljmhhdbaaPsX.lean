/- Ps0, Ps1, Ps2, in one text. -/
import Derived.Test.YtpnaolljmhhdbaaPkX
import Derived.Test.YtpnaolljmhhdbaaLibL
namespace Go.Proofs.Ytpnaolljmhhdbaa
open Go Go.Gm
set_option linter.unusedVariables false
set_option linter.unusedSimpArgs false
set_option maxHeartbeats 4000000
set_option maxRecDepth 8000

theorem inR0 : inR .i64 0 := by show IntKind.min .i64 ≤ 0 ∧ 0 ≤ IntKind.max .i64; decide

/-- Neighbours that are alike, once. -/
def compactG {α : Type} [DecidableEq α] : List α → List α
  | [] => []
  | [x] => [x]
  | x :: y :: l => if x = y then compactG (y :: l) else x :: compactG (y :: l)
theorem compactG_snoc {α : Type} [DecidableEq α] (a b : α) : ∀ l : List α, compactG (l ++ [a, b]) = if a = b then compactG (l ++ [a]) else compactG (l ++ [a]) ++ [b]
  | [] => by
    show (if a = b then [b] else a :: [b]) = if a = b then [a] else [a] ++ [b]
    split
    · rename_i h; rw [h]
    · rfl
  | [x] => by
    have ih := compactG_snoc a b []
    show (if x = a then compactG ([] ++ [a, b]) else x :: compactG ([] ++ [a, b])) = if a = b then (if x = a then compactG ([] ++ [a]) else x :: compactG ([] ++ [a])) else (if x = a then compactG ([] ++ [a]) else x :: compactG ([] ++ [a])) ++ [b]
    rw [ih]
    by_cases h1 : x = a <;> by_cases h2 : a = b <;> simp [h1, h2]
  | x :: y :: l => by
    have ih := compactG_snoc a b (y :: l)
    show (if x = y then compactG (y :: l ++ [a, b]) else x :: compactG (y :: l ++ [a, b])) = if a = b then (if x = y then compactG (y :: l ++ [a]) else x :: compactG (y :: l ++ [a])) else (if x = y then compactG (y :: l ++ [a]) else x :: compactG (y :: l ++ [a])) ++ [b]
    rw [ih]
    by_cases h1 : x = y <;> by_cases h2 : a = b <;> simp [h1, h2]
theorem compactG_step {α : Type} [DecidableEq α] [Inhabited α] {l : List α} {p : Nat} (h1 : 1 ≤ p) (h2 : p < l.length) : compactG (l.take (p + 1)) = if Go.Gm.nth l (p - 1) = Go.Gm.nth l p then compactG (l.take p) else compactG (l.take p) ++ [Go.Gm.nth l p] := by
  obtain ⟨q, rfl⟩ : ∃ q, p = q + 1 := ⟨p - 1, by omega⟩
  rw [take_nth h2, take_nth (show q < l.length by omega), List.append_assoc]
  exact compactG_snoc _ _ _
theorem compactG_one {α : Type} [DecidableEq α] : ∀ {l : List α}, l.length ≤ 1 → compactG l = l
  | [], _ => rfl
  | [x], _ => rfl
  | x :: y :: l, h => by simp at h

/-- A strict order that parts whatever two are not one. -/
structure STO {α : Type} (lt : α → α → Bool) : Prop where
  irr : ∀ a, lt a a = false
  tr : ∀ a b c, lt a b = true → lt b c = true → lt a c = true
  tot : ∀ a b, lt a b = false → lt b a = false → a = b
section
variable {α : Type} {lt : α → α → Bool}
theorem STO.asym (h : STO lt) {a b : α} (k : lt a b = true) : lt b a = false := by
  cases e : lt b a with
  | false => rfl
  | true => have := h.tr a b a k e; rw [h.irr] at this; cases this
theorem STO.ne (h : STO lt) {a b : α} (k : lt a b = true) : a ≠ b := fun e => by subst e; rw [h.irr] at k; cases k
theorem STO.le (h : STO lt) {a b c : α} (h1 : lt a b = true) (h2 : lt c b = false) : lt a c = true := by
  cases e : lt a c with
  | true => rfl
  | false =>
    cases e2 : lt c a with
    | true => have := h.tr c a b e2 h1; rw [h2] at this; cases this
    | false => have := h.tot a c e e2; subst this; rw [h1] at h2; cases h2
abbrev IncG (lt : α → α → Bool) (l : List α) : Prop := l.Pairwise fun a b => lt a b = true
theorem incG_unique (h : STO lt) : ∀ {a b : List α}, IncG lt a → IncG lt b → (∀ x, x ∈ a ↔ x ∈ b) → a = b
  | [], [], _, _, _ => rfl
  | [], y :: b, _, _, k => by have := (k y).2 (by simp); cases this
  | x :: a, [], _, _, k => by have := (k x).1 (by simp); cases this
  | x :: a, y :: b, ha, hb, k => by
    have ha' := List.pairwise_cons.1 ha
    have hb' := List.pairwise_cons.1 hb
    have e : x = y := by
      rcases List.mem_cons.1 ((k x).1 (by simp)) with e | e
      · exact e
      · rcases List.mem_cons.1 ((k y).2 (by simp)) with e2 | e2
        · exact e2.symm
        · have h1 := h.asym (hb'.1 x e); rw [ha'.1 y e2] at h1; cases h1
    subst e
    congr 1
    refine incG_unique h ha'.2 hb'.2 fun z => ⟨fun hz => ?_, fun hz => ?_⟩
    · rcases List.mem_cons.1 ((k z).1 (by simp [hz])) with e | e
      · exact absurd e.symm (h.ne (ha'.1 z hz))
      · exact e
    · rcases List.mem_cons.1 ((k z).2 (by simp [hz])) with e | e
      · exact absurd e.symm (h.ne (hb'.1 z hz))
      · exact e
theorem sortG_le (h : STO lt) (l : List α) : (l.mergeSort fun x y => !lt y x).Pairwise (fun a b => lt b a = false) := by
  have := List.pairwise_mergeSort (le := fun x y => !lt y x) (fun a b c h1 h2 => by
    simp at h1 h2 ⊢
    cases e : lt c a with
    | false => rfl
    | true => have := h.le e h1; rw [h2] at this; cases this) (fun a b => by
    cases e : lt b a with
    | false => simp
    | true => simp [h.asym e]) l
  exact this.imp fun h => by simpa using h
variable [DecidableEq α]
/-- What the document puts into an order. -/
def putRG (lt : α → α → Bool) (e : α) : List α → Bool → List α
  | [], d => if d then [] else [e]
  | x :: l, d => (if d = false ∧ lt x e = false then [e] else []) ++ (if x = e then [] else [x]) ++ putRG lt e l (d || !lt x e)
def putG (lt : α → α → Bool) (l : List α) (e : α) : List α := putRG lt e l false
theorem putRG_len (lt : α → α → Bool) (e : α) : ∀ (l : List α) (d : Bool), (putRG lt e l d).length ≤ l.length + (if d then 0 else 1)
  | [], d => by cases d <;> simp [putRG]
  | x :: l, d => by
    have ih := putRG_len lt e l (d || !lt x e)
    have h1 : (if x = e then ([] : List α) else [x]).length ≤ 1 := by split <;> simp
    have h2 : (if d = false ∧ lt x e = false then [e] else ([] : List α)).length + (if (d || !lt x e) = true then 0 else 1) ≤ if d = true then 0 else 1 := by
      cases d <;> cases lt x e <;> simp
    rw [putRG, List.length_append, List.length_append, List.length_cons]
    omega
theorem putRG_done (h : STO lt) {e : α} : ∀ {l : List α}, (∀ x ∈ l, lt e x = true) → putRG lt e l true = l
  | [], _ => rfl
  | x :: l, k => by
    have h1 := k x (by simp)
    rw [putRG, Bool.true_or, putRG_done h fun y hy => k y (by simp [hy]), if_neg (by simp), if_neg (h.ne h1).symm]
    rfl
theorem putG_inc (h : STO lt) {e : α} : ∀ {l : List α}, IncG lt l → IncG lt (putG lt l e) ∧ ∀ x, x ∈ putG lt l e ↔ x ∈ l ∨ x = e
  | [], _ => by simp [putG, putRG]
  | y :: l, k => by
    have h' := List.pairwise_cons.1 k
    unfold putG
    cases h1 : lt y e with
    | true =>
      have e1 : putRG lt e (y :: l) false = y :: putRG lt e l false := by
        rw [putRG, if_neg (by rw [h1]; simp), if_neg (h.ne h1), h1]; rfl
      have ih := putG_inc h (e := e) h'.2
      rw [e1]
      refine ⟨List.pairwise_cons.2 ⟨fun p hp => ?_, ih.1⟩, fun x => ?_⟩
      · rcases (ih.2 p).1 hp with hp | rfl
        · exact h'.1 p hp
        · exact h1
      · have := ih.2 x
        unfold putG at this
        simp only [List.mem_cons, this, or_assoc]
    | false =>
      by_cases h2 : y = e
      · subst h2
        rw [putRG, if_pos ⟨rfl, h1⟩, if_pos rfl, h1, show (false || !false) = true from rfl, putRG_done h h'.1]
        exact ⟨k, fun x => by simp; intro e; exact .inl e⟩
      · have h3 : lt e y = true := by
          cases e3 : lt e y with
          | true => rfl
          | false => exact absurd (h.tot y e h1 e3) h2
        rw [putRG, if_pos ⟨rfl, h1⟩, if_neg h2, h1, show (false || !false) = true from rfl, putRG_done h fun x hx => h.tr e y x h3 (h'.1 x hx)]
        refine ⟨List.pairwise_cons.2 ⟨fun p hp => ?_, k⟩, fun x => by simp; constructor <;> (rintro (h | h | h) <;> simp [h])⟩
        rcases List.mem_cons.1 hp with rfl | hp
        · exact h3
        · exact h.tr e y p h3 (h'.1 p hp)
def keysG (lt : α → α → Bool) (l : List α) : List α := l.foldl (putG lt) []
theorem keysG_inc (h : STO lt) (l : List α) : IncG lt (keysG lt l) ∧ ∀ x, x ∈ keysG lt l ↔ x ∈ l := by
  have key : ∀ (l acc : List α), IncG lt acc → IncG lt (l.foldl (putG lt) acc) ∧ ∀ x, x ∈ l.foldl (putG lt) acc ↔ x ∈ acc ∨ x ∈ l := by
    intro l
    induction l with
    | nil => intro acc k; exact ⟨k, fun x => by simp⟩
    | cons y l ih =>
      intro acc k
      have h1 := putG_inc h (e := y) k
      have h2 := ih (putG lt acc y) h1.1
      refine ⟨h2.1, fun x => ?_⟩
      rw [List.foldl_cons, h2.2 x, h1.2 x, List.mem_cons, or_assoc]
  have := key l [] List.Pairwise.nil
  exact ⟨this.1, fun x => by rw [show keysG lt l = l.foldl (putG lt) [] from rfl, this.2 x]; simp⟩
theorem compactG_inc (h : STO lt) : ∀ {l : List α}, l.Pairwise (fun a b => lt b a = false) → IncG lt (compactG l) ∧ ∀ x, x ∈ compactG l ↔ x ∈ l
  | [], _ => by simp [compactG]
  | [x], _ => by simp [compactG]
  | x :: y :: l, k => by
    have h' := List.pairwise_cons.1 k
    have ih := compactG_inc h h'.2
    show IncG lt (if x = y then compactG (y :: l) else x :: compactG (y :: l)) ∧ ∀ z, z ∈ (if x = y then compactG (y :: l) else x :: compactG (y :: l)) ↔ _
    split
    · rename_i e
      subst e
      exact ⟨ih.1, fun z => by rw [ih.2 z]; simp⟩
    · rename_i e
      have hxy : lt x y = true := by
        cases e2 : lt x y with
        | true => rfl
        | false => exact absurd (h.tot x y e2 (h'.1 y (by simp))) e
      refine ⟨List.pairwise_cons.2 ⟨fun z hz => ?_, ih.1⟩, fun z => by rw [List.mem_cons, ih.2 z, ← List.mem_cons]⟩
      rcases List.mem_cons.1 ((ih.2 z).1 hz) with rfl | hz2
      · exact hxy
      · exact h.le hxy ((List.pairwise_cons.1 h'.2).1 z hz2)
theorem keysG_sorted (h : STO lt) (l : List α) : compactG (l.mergeSort fun x y => !lt y x) = keysG lt l :=
  incG_unique h (compactG_inc h (sortG_le h l)).1 (keysG_inc h l).1 fun x => by rw [(compactG_inc h (sortG_le h l)).2, (keysG_inc h l).2]; exact (List.mergeSort_perm l _).mem_iff
end
theorem eqED (d e : EdgeD) : (decide (d.src = e.src) && (decide (d.dst = e.dst) && (decide (d.kind = e.kind) && (decide (d.key = e.key) && true)))) = decide (d = e) := by
  cases d; cases e
  rw [Bool.eq_iff_iff]
  simp
def ltE (a b : EdgeD) : Bool := decide (cmpE a b < 0)
theorem cmpE_iff (a b : EdgeD) : (cmpE a b < 0 ↔ a.src < b.src ∨ a.src = b.src ∧ (a.kind < b.kind ∨ a.kind = b.kind ∧ (a.key < b.key ∨ a.key = b.key ∧ a.dst < b.dst))) := by
  unfold cmpE keyL cmpL
  by_cases h1 : a.src = b.src
  · rw [if_pos h1]
    unfold cmpL
    by_cases h2 : a.kind = b.kind
    · rw [if_pos h2]
      unfold cmpL
      by_cases h3 : a.key = b.key
      · rw [if_pos h3]
        unfold cmpL
        by_cases h4 : a.dst = b.dst
        · rw [if_pos h4]; unfold cmpL; simp; omega
        · rw [if_neg h4]; unfold cmpI; split <;> (try split) <;> omega
      · rw [if_neg h3]; unfold cmpI; split <;> (try split) <;> omega
    · rw [if_neg h2]; unfold cmpI; split <;> (try split) <;> omega
  · rw [if_neg h1]; unfold cmpI; split <;> (try split) <;> omega
theorem ltE_iff (a b : EdgeD) : ltE a b = true ↔ a.src < b.src ∨ a.src = b.src ∧ (a.kind < b.kind ∨ a.kind = b.kind ∧ (a.key < b.key ∨ a.key = b.key ∧ a.dst < b.dst)) := by unfold ltE; rw [decide_eq_true_eq, cmpE_iff]
theorem ltE_not (a b : EdgeD) : ltE a b = false ↔ ¬ (a.src < b.src ∨ a.src = b.src ∧ (a.kind < b.kind ∨ a.kind = b.kind ∧ (a.key < b.key ∨ a.key = b.key ∧ a.dst < b.dst))) := by unfold ltE; rw [decide_eq_false_iff_not, cmpE_iff]
theorem ltE_sto : STO ltE where
  irr a := by rw [ltE_not]; omega
  tr a b c h1 h2 := by rw [ltE_iff] at *; omega
  tot a b h1 h2 := by
    rw [ltE_not] at h1 h2
    cases a; cases b
    simp only [EdgeD.mk.injEq] at *
    omega
def sortE (l : List EdgeD) : List EdgeD := l.mergeSort fun x y => !ltE y x
theorem sortE_keys (l : List EdgeD) : compactG (sortE l) = keysG ltE l := keysG_sorted ltE_sto l
theorem sortE_len (l : List EdgeD) : (sortE l).length = l.length := List.length_mergeSort l
end Go.Proofs.Ytpnaolljmhhdbaa
namespace Go.Proofs.Ytpnaolljmhhdbaa
open Go Go.Gm
set_option linter.unusedVariables false
set_option linter.unusedSimpArgs false
set_option maxHeartbeats 4000000
set_option maxRecDepth 8000

theorem less02_c (d e : EdgeD) : FnP Try.prog 45 [.agg (rEdge d), .agg (rEdge e)] (.bool (ltE d e)) := by
  refine FnP.mk Try.func45 rfl Try.ntmps45 rfl ?_
  intro B a w F hB hfr hS
  refine wp_seq ?_
  refine region_q hS
    (cF rfl (oX 101 (.conv .t .agg)) r1 trivial
    (cF rfl (oX 102 (.conv .t .agg)) r1 trivial
    (cF rfl (oN .cb) trivial trivial
    Chain.nil)))
    hB ?_
  clear hS; intro a w F hS
  replace hS := hS.sub
  obtain ⟨F, hS⟩ := hS.nm [4, 3, 2] [102, 101, 0] rfl rfl
  try dsimp only [RS.sub, SF.sub, CF.sub, csub, Anc.sub, List.map, zCF, rEdge] at hS
  generalize Act.tau a 2 = v2 at hS
  generalize Act.tau a 3 = v3 at hS
  refine then_n (wp_seq (wp_seq ?_))
  refine region_q hS
    (cF rfl (oF 0 101 .is) r1 r1
    (cF rfl (oL false 1 101 .adr) r1 r1
    (cF rfl (oF 0 102 .is) r1 r1
    (cF rfl (oL false 1 102 .adr) r1 r1
    (cF rfl (o_neq .t .t) r2 trivial
    Chain.nil)))))
    hB ?_
  clear hS; intro a w F hS
  obtain ⟨F, hS⟩ := hS.nm [9, 4, 3, 2] [102, 101, 0] rfl rfl
  try dsimp only [List.map, xD, xE, xT, xU, ldSF, rEdge] at hS
  refine then_n ?_
  refine cond_b hS rfl (fun hc0 => ?_) (fun hc0 => ?_)
  ·skip
   refine wp_seq ?_
   refine region_q hS
     (cF rfl (oF 0 101 .is) r1 r1
     (cF rfl (oL false 1 101 .adr) r1 r1
     (cF rfl (oF 0 102 .is) r1 r1
     (cF rfl (oL false 1 102 .adr) r1 r1
     (cF rfl (o_lss .t .t) r2 trivial
     (cF rfl (oN .t) r1 trivial
     Chain.nil))))))
     hB ?_
   clear hS; intro a w F hS
   obtain ⟨F, hS⟩ := hS.nm [4, 3, 2] [102, 101, 0] rfl rfl
   try dsimp only [List.map, xD, xE, xT, xU, ldSF, rEdge] at hS
   refine then_n (wp_ret (then_r ?_))
   refine ret_P hfr hS rfl (.tmp rfl .nil) (.one (.bool (by first | (rw [Bool.eq_iff_iff, ltE_iff]; simp at *; omega) | (simp at *; rw [Bool.eq_iff_iff, ltE_iff]; simp; omega))))
  refine wp_skip (then_n (wp_seq (wp_seq ?_)))
  refine region_q hS
    (cF rfl (oF 2 101 .is) r1 r1
    (cF rfl (oL false 1 101 .adr) r1 r1
    (cF rfl (oF 2 102 .is) r1 r1
    (cF rfl (oL false 1 102 .adr) r1 r1
    (cF rfl (o_neq .t .t) r2 trivial
    Chain.nil)))))
    hB ?_
  clear hS; intro a w F hS
  obtain ⟨F, hS⟩ := hS.nm [19, 4, 3, 2] [102, 101, 0] rfl rfl
  try dsimp only [List.map, xD, xE, xT, xU, ldSF, rEdge] at hS
  refine then_n ?_
  refine cond_b hS rfl (fun hc1 => ?_) (fun hc1 => ?_)
  ·skip
   refine wp_seq ?_
   refine region_q hS
     (cF rfl (oF 2 101 .is) r1 r1
     (cF rfl (oL false 1 101 .adr) r1 r1
     (cF rfl (oF 2 102 .is) r1 r1
     (cF rfl (oL false 1 102 .adr) r1 r1
     (cF rfl (o_lss .t .t) r2 trivial
     (cF rfl (oN .t) r1 trivial
     Chain.nil))))))
     hB ?_
   clear hS; intro a w F hS
   obtain ⟨F, hS⟩ := hS.nm [4, 3, 2] [102, 101, 0] rfl rfl
   try dsimp only [List.map, xD, xE, xT, xU, ldSF, rEdge] at hS
   refine then_n (wp_ret (then_r ?_))
   refine ret_P hfr hS rfl (.tmp rfl .nil) (.one (.bool (by first | (rw [Bool.eq_iff_iff, ltE_iff]; simp at *; omega) | (simp at *; rw [Bool.eq_iff_iff, ltE_iff]; simp; omega))))
  refine wp_skip (then_n (wp_seq (wp_seq ?_)))
  refine region_q hS
    (cF rfl (oF 3 101 .is) r1 r1
    (cF rfl (oL false 1 101 .adr) r1 r1
    (cF rfl (oF 3 102 .is) r1 r1
    (cF rfl (oL false 1 102 .adr) r1 r1
    (cF rfl (o_neq .t .t) r2 trivial
    Chain.nil)))))
    hB ?_
  clear hS; intro a w F hS
  obtain ⟨F, hS⟩ := hS.nm [29, 4, 3, 2] [102, 101, 0] rfl rfl
  try dsimp only [List.map, xD, xE, xT, xU, ldSF, rEdge] at hS
  refine then_n ?_
  refine cond_b hS rfl (fun hc2 => ?_) (fun hc2 => ?_)
  ·skip
   refine wp_seq ?_
   refine region_q hS
     (cF rfl (oF 3 101 .is) r1 r1
     (cF rfl (oL false 1 101 .adr) r1 r1
     (cF rfl (oF 3 102 .is) r1 r1
     (cF rfl (oL false 1 102 .adr) r1 r1
     (cF rfl (o_lss .t .t) r2 trivial
     (cF rfl (oN .t) r1 trivial
     Chain.nil))))))
     hB ?_
   clear hS; intro a w F hS
   obtain ⟨F, hS⟩ := hS.nm [4, 3, 2] [102, 101, 0] rfl rfl
   try dsimp only [List.map, xD, xE, xT, xU, ldSF, rEdge] at hS
   refine then_n (wp_ret (then_r ?_))
   refine ret_P hfr hS rfl (.tmp rfl .nil) (.one (.bool (by first | (rw [Bool.eq_iff_iff, ltE_iff]; simp at *; omega) | (simp at *; rw [Bool.eq_iff_iff, ltE_iff]; simp; omega))))
  refine wp_skip (then_n (wp_seq ?_))
  refine region_q hS
    (cF rfl (oF 1 101 .is) r1 r1
    (cF rfl (oL false 1 101 .adr) r1 r1
    (cF rfl (oF 1 102 .is) r1 r1
    (cF rfl (oL false 1 102 .adr) r1 r1
    (cF rfl (o_lss .t .t) r2 trivial
    (cF rfl (oN .t) r1 trivial
    Chain.nil))))))
    hB ?_
  clear hS; intro a w F hS
  obtain ⟨F, hS⟩ := hS.nm [4] [0] rfl rfl
  try dsimp only [List.map, xD, xE, xT, xU, ldSF, rEdge] at hS
  refine then_n (wp_ret ?_)
  refine ret_P hfr hS rfl (.tmp rfl .nil) (.one (.bool (by first | (rw [Bool.eq_iff_iff, ltE_iff]; simp at *; omega) | (simp at *; rw [Bool.eq_iff_iff, ltE_iff]; simp; omega))))
theorem Ent.eqSl {α : Type} {R : α → List PV} {x y : List α} (h : x = y) : Ent (.pv (.sl R x)) (.pv (.sl R y)) := fun _ _ _ _ k => h ▸ k

end Go.Proofs.Ytpnaolljmhhdbaa
namespace Go.Proofs.Ytpnaolljmhhdbaa
open Go Go.Gm
set_option linter.unusedVariables false
set_option linter.unusedSimpArgs false
set_option maxHeartbeats 4000000
set_option maxRecDepth 8000

theorem cloneEd_c (l : List EdgeD) (hl : l.length ≤ 1000000) : FnG Try.prog 84 1 [.sl rEdge l] [.star []] (PV.one) (fun v => [rowH 24 4 rEdge l v]) := by
  refine FnG.mk Try.func84 rfl Try.ntmps84 rfl (by kernel_rfl) ?_
  intro B F0 a w F hB hG hS
  obtain ⟨F, hS⟩ := hS.nm [0] [0] rfl rfl
  refine wp_seq ?_
  refine region_q hS
    (cF rfl (oN (.c rfl)) trivial trivial
    Chain.nil)
    hB ?_
  clear hS; intro a w F hS
  obtain ⟨F, hS⟩ := hS.nm [2, 0] [0] rfl rfl
  try dsimp only [rEdge] at hS
  refine then_n (wp_seq (wp_seq ?_))
  refine region_q hS
    (cF rfl (oM .t) r1 trivial
    (cF rfl (o_eql_nilsl Try.underlying114 .t) r1 trivial
    Chain.nil))
    hB ?_
  clear hS; intro a w F hS
  obtain ⟨F, hS⟩ := hS.nm [4, 2, 0] [0] rfl rfl
  try dsimp only [rEdge] at hS
  obtain ⟨β4, hβ4, hS⟩ := hS.pickBool 4 rfl
  obtain ⟨F, hS⟩ := hS.nm [4, 2, 0] [0] rfl rfl
  refine then_n ?_
  refine cond_b hS rfl (fun hc0 => ?_) (fun hc0 => ?_)
  ·skip
   have hg : l = [] := hβ4 hc0
   refine wp_seq ?_
   refine region_q hS
     (cF rfl (oN (.c rfl)) trivial trivial
     Chain.nil)
     hB ?_
   clear hS; intro a w F hS
   obtain ⟨F, hS⟩ := hS.nm [2, 0] [0] rfl rfl
   try dsimp only [rEdge] at hS
   refine then_n (wp_ret (then_r ?_))
   have hS := hS.fresh 1 rfl
   have hS := hS.turn 1 rfl (nilRow (T := 24) (sz := 4) (R := rEdge))
   have hS := hS.turn 1 rfl (r' := RS.hp (rowH 24 4 rEdge l (.slice none 0 0))) (fun _ _ _ _ h => by rw [hg]; exact h)
   refine ret_N1 (h' := fun v => rowH 24 4 rEdge l v) hG hS rfl (.tmp rfl .nil) (.one .one) rfl
  have hg : l = [] ++ l := rfl
  refine wp_skip (then_n (wp_seq ?_))
  refine region_q hS
    (cF rfl (o_buildSlice0 (R := rEdge) (sz := 4) 101 Try.underlying114 (by kernel_rfl)) trivial trivial
    (cF rfl (oM .t) r1 trivial
    (cF rfl (o_append (sz := 4) (bs := 32) 101 (.mk' Try.underlying114 (by kernel_rfl) (by kernel_rfl)) (by intro x; rfl) .same (.sl .t) (by simp only [List.length_append, List.length_nil]; omega) (by decide)) ⟨rfl, rfl, trivial⟩ ⟨rfl, trivial⟩
    (cF rfl (oN .t) r1 trivial
    Chain.nil))))
    hB ?_
  clear hS; intro a w F hS
  replace hS := hS.sub
  obtain ⟨F, hS⟩ := hS.nm [2] [101, 0] rfl rfl
  try dsimp only [RS.sub, SF.sub, CF.sub, csub, Anc.sub, List.map, stCells, xL, xM, Nat.reduceAdd, xD, xE, xT, xU, xC, xN, zCF, rEdge] at hS
  generalize Act.tau a 7 = v7 at hS
  refine then_n (wp_ret ?_)
  obtain ⟨F, hS⟩ := hS.rename 101 1 rfl rfl
  have hS := hS.turn 1 rfl (r' := RS.hp (rowH 24 4 rEdge l v7)) (fun _ _ _ _ h => by rw [hg]; exact h)
  refine ret_N1 (h' := fun v => rowH 24 4 rEdge l v) hG hS rfl (.tmp rfl .nil) (.one .one) rfl

theorem compactEd_c (v : Value) (l : List EdgeD) (hll : l.length ≤ 1000000) : FnG Try.prog 87 1 [.is v] [rowH 24 4 rEdge l v] (PV.one) (fun v => [rowH 24 4 rEdge (compactG l) v]) := by
  refine FnG.mk Try.func87 rfl Try.ntmps87 rfl (by kernel_rfl) ?_
  intro B F0 a w F hB hG hS
  replace hS := hS.turn 1 rfl (r' := .ob (.val v) (rowH 24 4 rEdge l)) (fun _ _ _ _ h => h)
  refine wp_seq ?_
  refine region_q hS
    (cF rfl (oN (.c rfl)) trivial trivial
    Chain.nil)
    hB ?_
  clear hS; intro a w F hS
  obtain ⟨F, hS⟩ := hS.nm [2, 0] [1, 0] rfl rfl
  try dsimp only [rEdge] at hS
  refine then_n (wp_seq (wp_seq ?_))
  refine region_q hS
    (cF rfl (oM .t) r1 trivial
    (cF rfl (o_len_row 1 Try.underlying114 .is) r1 r1
    (cF rfl (o_lss .t (.ci (by kernel_rfl))) r1 trivial
    Chain.nil)))
    hB ?_
  clear hS; intro a w F hS
  obtain ⟨F, hS⟩ := hS.nm [8, 2, 0] [1, 0] rfl rfl
  try dsimp only [rEdge] at hS
  refine then_n ?_
  refine cond_b hS rfl (fun hc0 => ?_) (fun hc0 => ?_)
  ·skip
   have hg : (compactG l) = l := compactG_one (by simp at hc0; omega)
   refine wp_seq ?_
   refine region_q hS
     (cF rfl (oM .t) r1 trivial
     (cF rfl (oN .t) r1 trivial
     Chain.nil))
     hB ?_
   clear hS; intro a w F hS
   obtain ⟨F, hS⟩ := hS.nm [2, 0] [1, 0] rfl rfl
   try dsimp only [rEdge] at hS
   refine then_n (wp_ret (then_r ?_))
   have hS := hS.turn 1 rfl (r' := RS.hp (rowH 24 4 rEdge (compactG l) v)) (fun _ _ _ _ h => by rw [hg]; exact h)
   refine ret_N1 (h' := fun v => rowH 24 4 rEdge (compactG l) v) hG hS rfl (.tmp rfl .nil) (.one .one) rfl
  have hl2 : 2 ≤ l.length := by simp at hc0; omega
  refine wp_skip (then_n (wp_seq (wp_seq ?_)))
  refine region_q hS
    (cF rfl (oN (.ci (by kernel_rfl))) trivial trivial
    Chain.nil)
    hB ?_
  clear hS; intro a w F hS
  obtain ⟨F, hS⟩ := hS.nm [3, 2, 0] [1, 0] rfl rfl
  try dsimp only [rEdge] at hS
  refine then_n (wp_block ?_)
  refine loop_keep (σ := Nat) [0, 2] [0, 1] (fun s => [(3, .pv (.int .i64 (s : Int)))]) (fun s => []) (fun s => 1 ≤ s ∧ s ≤ l.length ∧ compactG (l.take s) = l.take s) (fun s => l.length - s) (1) hS ⟨rfl, rfl, rfl, trivial⟩ ⟨rfl, rfl, trivial⟩ ⟨by omega, by omega, compactG_one (by rw [List.length_take]; omega)⟩ ?_
  clear hS; intro k a w F hC hS
  try dsimp only at hC
  obtain ⟨F, hS⟩ := hS.nm [3, 2, 0] [1, 0] rfl rfl
  try dsimp only at hS
  obtain ⟨hk1, hkl, hkc⟩ := hC
  have hkw : IntKind.wrap .i64 ((k : Int) - 1) = (k : Int) - 1 := wrap_i64 (by omega)
  refine wp_seq (wp_seq ?_)
  refine region_q hS
    (cF rfl (oM .t) r1 trivial
    (cF rfl (oM .t) r1 trivial
    (cF rfl (o_len_row 1 Try.underlying114 .is) r1 r1
    (cF rfl (o_lss .t .t) r2 trivial
    Chain.nil))))
    hB ?_
  clear hS; intro a w F hS
  obtain ⟨F, hS⟩ := hS.nm [13, 12, 11, 10, 3, 2, 0] [1, 0] rfl rfl
  try dsimp only [rEdge] at hS
  refine then_n ?_
  refine cond_b hS rfl (fun hc1 => ?_) (fun hc1 => ?_)
  ·skip
   have hil : k < l.length := by simp at hc1; omega
   have hst := compactG_step (l := l) hk1 hil
   have hy0 : (IntKind.wrap .i64 ((k : Int) - 1)).toNat = k - 1 := by rw [hkw]; omega
   refine wp_skip (then_n (wp_seq (wp_block (wp_seq ?_))))
   refine region_any (by kernel_rfl) hS (by kernel_rfl)
     (cF rfl (oM .t) r1 trivial
     (cF rfl (oM .t) r1 trivial
     (cF rfl (o_indexAddr_row (sz := 4) 1 (.mk Try.underlying114 (by kernel_rfl)) .is .t (by omega) (by omega) (by rfl)) r2 r1
     (cF rfl (o_load_row0 (ag := true) (sz' := 4) (sz := 4) 1 .t (by intro x; rfl) (by omega) (by kernel_rfl) (by kernel_rfl) (by kernel_rfl)) r1 r1
     (cF rfl (oM .t) r1 trivial
     (cF rfl (oM .t) r1 trivial
     (cF rfl (o_sub .t (.ci (by kernel_rfl))) r1 trivial
     (cF rfl (o_indexAddr_row (sz := 4) 1 (.mk Try.underlying114 (by kernel_rfl)) .is .t (by rw [hkw]; omega) (by rw [hkw]; omega) (by rfl)) r2 r1
     (cF rfl (o_load_row0 (ag := true) (sz' := 4) (sz := 4) 1 .t (by intro x; rfl) (by rw [hkw]; omega) (by kernel_rfl) (by kernel_rfl) (by kernel_rfl)) r1 r1
     (cF rfl (o_eqlS (ks := [true, true, true, true]) (by kernel_rfl) .t .t (.int (.int (.int (.int .nil))))) r2 trivial
     Chain.nil))))))))))
     (by kernel_rfl) (by rw [hB]; kernel_rfl) ?_
   clear hS; intro a w F hS
   obtain ⟨F, hS⟩ := hS.nm [25, 24, 23, 22, 21, 20, 19, 18, 17, 16, 13, 12, 11, 10, 3, 2, 0] [1, 0] rfl rfl
   try dsimp only [List.map, xD, xE, xT, xU, ldSF, rEdge] at hS
   try simp only [Int.toNat_natCast] at hS
   refine then_n ?_
   refine cond_b hS rfl (fun hc2 => ?_) (fun hc2 => ?_)
   ·skip
    have heq : Go.Gm.nth l (k - 1) = Go.Gm.nth l k := by rw [hy0] at hc2; simp only [eqED] at hc2; simp at hc2; exact hc2.symm
    rw [if_pos heq, hkc] at hst
    have hst0 := hst.symm
    refine wp_seq ?_
    refine region_q hS
      (cF rfl (oM .t) r1 trivial
      (cF rfl (oM .t) r1 trivial
      (cF rfl (o_sub_row (sz := 4) 1 (.mk Try.underlying114 (by kernel_rfl)) .is .t (by omega) (by omega)) r2 r1
      (cF rfl (oN .t) r1 trivial
      Chain.nil))))
      hB ?_
    clear hS; intro a w F hS
    obtain ⟨F, hS⟩ := hS.nm [28, 27, 26, 25, 24, 23, 22, 21, 20, 19, 18, 17, 16, 13, 12, 11, 10, 4, 3, 2, 0] [1, 0] rfl rfl
    try dsimp only [rEdge] at hS
    refine then_n (wp_seq (wp_seq ?_))
    refine region_q hS
      (cF rfl (oN (.ci (by kernel_rfl))) trivial trivial
      Chain.nil)
      hB ?_
    clear hS; intro a w F hS
    obtain ⟨F, hS⟩ := hS.nm [28, 27, 26, 25, 24, 23, 22, 21, 20, 19, 18, 17, 16, 13, 12, 11, 10, 5, 4, 3, 2, 0] [1, 0] rfl rfl
    try dsimp only [rEdge] at hS
    refine then_n (wp_block ?_)
    have hC0 : 1 ≤ 1 ∧ 1 ≤ l.length - k ∧ k ≤ k ∧ k ≤ k + 1 - 1 ∧ l.length = l.length ∧ l.take k = compactG (l.take (k + 1)) ∧ ∀ q, k + 1 - 1 ≤ q → q < l.length → Go.Gm.nth l q = Go.Gm.nth l q := ⟨by omega, by omega, by omega, by omega, rfl, hst0, fun q _ _ => rfl⟩
    refine loop_keep (σ := Nat × Nat × List EdgeD) [0, 2, 4, 10, 11, 12, 13, 16, 17, 18, 19, 20, 21, 22, 23, 24, 25, 26, 27, 28] [0] (fun s => [(3, .pv (.int .i64 (s.1 : Int))), (5, .pv (.int .i64 (s.2.1 : Int)))]) (fun s => [(1, .ob (.val v) (rowH 24 4 rEdge s.2.2))]) (fun s => 1 ≤ s.2.1 ∧ s.2.1 ≤ l.length - k ∧ k ≤ s.1 ∧ s.1 ≤ k + s.2.1 - 1 ∧ s.2.2.length = l.length ∧ s.2.2.take s.1 = compactG (l.take (k + s.2.1)) ∧ ∀ q, k + s.2.1 - 1 ≤ q → q < l.length → Go.Gm.nth s.2.2 q = Go.Gm.nth l q) (fun s => l.length - s.2.1) ((k), (1), (l)) hS ⟨rfl, rfl, rfl, rfl, rfl, rfl, rfl, rfl, rfl, rfl, rfl, rfl, rfl, rfl, rfl, rfl, rfl, rfl, rfl, rfl, rfl, rfl, trivial⟩ ⟨rfl, rfl, trivial⟩ hC0 ?_
    clear hS; intro s a w F hC hS
    obtain ⟨k1, j, l1⟩ := s
    try dsimp only at hC
    obtain ⟨F, hS⟩ := hS.nm [28, 27, 26, 25, 24, 23, 22, 21, 20, 19, 18, 17, 16, 13, 12, 11, 10, 5, 4, 3, 2, 0] [1, 0] rfl rfl
    try dsimp only at hS
    obtain ⟨hj1, hjk, hkk, hkj, hl1, htk, hrest⟩ := hC
    have hjw : IntKind.wrap .i64 ((j : Int) - 1) = (j : Int) - 1 := wrap_i64 (by omega)
    refine wp_seq (wp_seq ?_)
    refine region_q hS
      (cF rfl (oM .t) r1 trivial
      (cF rfl (oM .t) r1 trivial
      (cF rfl (o_len_sub 1 Try.underlying114 .t (by omega)) r1 r1
      (cF rfl (o_lss .t .t) r2 trivial
      Chain.nil))))
      hB ?_
    clear hS; intro a w F hS
    obtain ⟨F, hS⟩ := hS.nm [32, 31, 30, 29, 28, 27, 26, 25, 24, 23, 22, 21, 20, 19, 18, 17, 16, 13, 12, 11, 10, 5, 4, 3, 2, 0] [1, 0] rfl rfl
    try dsimp only [rEdge] at hS
    refine then_n ?_
    refine cond_b hS rfl (fun hc3 => ?_) (fun hc3 => ?_)
    ·skip
     have hjl : k + j < l.length := by simp at hc3; omega
     have hx1 : (Go.Gm.nth l1 (((k : Int)).toNat + ((j : Int)).toNat)) = Go.Gm.nth l (k + j) := by rw [Int.toNat_natCast, Int.toNat_natCast]; exact hrest _ (by omega) hjl
     have hx0 : Go.Gm.nth l1 (((k : Int)).toNat + (IntKind.wrap .i64 ((j : Int) - 1)).toNat) = Go.Gm.nth l (k + j - 1) := by rw [hjw, show ((k : Int)).toNat + ((j : Int) - 1).toNat = k + j - 1 by omega]; exact hrest _ (by omega) (by omega)
     have hstp := compactG_step (l := l) (p := k + j) (by omega) hjl
     refine wp_skip (then_n (wp_seq (wp_block (wp_seq ?_))))
     refine region_any (by kernel_rfl) hS (by kernel_rfl)
       (cF rfl (oM .t) r1 trivial
       (cF rfl (oM .t) r1 trivial
       (cF rfl (o_indexAddr_sub (sz := 4) 1 (.mk Try.underlying114 (by kernel_rfl)) .t .t (by omega) (by omega) (by rfl)) r2 r1
       (cF rfl (o_load_row0 (ag := true) (sz' := 4) (sz := 4) 1 .t (by intro x; rfl) (by omega) (by kernel_rfl) (by kernel_rfl) (by kernel_rfl)) r1 r1
       (cF rfl (oM .t) r1 trivial
       (cF rfl (oM .t) r1 trivial
       (cF rfl (o_sub .t (.ci (by kernel_rfl))) r1 trivial
       (cF rfl (o_indexAddr_sub (sz := 4) 1 (.mk Try.underlying114 (by kernel_rfl)) .t .t (by rw [hjw]; omega) (by rw [hjw]; omega) (by rfl)) r2 r1
       (cF rfl (o_load_row0 (ag := true) (sz' := 4) (sz := 4) 1 .t (by intro x; rfl) (by rw [hjw]; omega) (by kernel_rfl) (by kernel_rfl) (by kernel_rfl)) r1 r1
       (cF rfl (o_neqS (ks := [true, true, true, true]) (by kernel_rfl) .t .t (.int (.int (.int (.int .nil))))) r2 trivial
       Chain.nil))))))))))
       (by kernel_rfl) (by rw [hB]; kernel_rfl) ?_
     clear hS; intro a w F hS
     obtain ⟨F, hS⟩ := hS.nm [44, 43, 42, 41, 40, 39, 38, 37, 36, 35, 32, 31, 30, 29, 28, 27, 26, 25, 24, 23, 22, 21, 20, 19, 18, 17, 16, 13, 12, 11, 10, 5, 4, 3, 2, 0] [1, 0] rfl rfl
     try dsimp only [List.map, xD, xE, xT, xU, ldSF, rEdge] at hS
     try simp only [Int.toNat_natCast] at hS
     refine then_n ?_
     refine cond_b hS rfl (fun hc4 => ?_) (fun hc4 => ?_)
     ·skip
      have hne : ¬ Go.Gm.nth l (k + j - 1) = Go.Gm.nth l (k + j) := by rw [← hx1, ← hx0]; simp only [eqED] at hc4; simp at hc4 ⊢; exact fun e => hc4 e.symm
      rw [if_neg hne] at hstp
      obtain ⟨i2, hi2e⟩ : ∃ i2, i2 = k1 + 1 := ⟨_, rfl⟩
      have hi2 : IntKind.wrap .i64 ((k1 : Int) + 1) = (i2 : Int) := by rw [hi2e]; exact wrap_succ (by omega)
      obtain ⟨l2, hl2e⟩ : ∃ l2, l2 = l1.set k1 (Go.Gm.nth l1 (k + j)) := ⟨_, rfl⟩
      have hx1b : Go.Gm.nth l1 (k + j) = Go.Gm.nth l (k + j) := hrest _ (by omega) hjl
      have hC2 : 1 ≤ j + 1 ∧ j + 1 ≤ l.length - k ∧ k ≤ i2 ∧ i2 ≤ k + (j + 1) - 1 ∧ l2.length = l.length ∧ l2.take i2 = compactG (l.take (k + (j + 1))) ∧ ∀ q, k + (j + 1) - 1 ≤ q → q < l.length → Go.Gm.nth l2 q = Go.Gm.nth l q := ⟨by omega, by omega, by omega, by omega, by rw [hl2e, List.length_set]; exact hl1, by rw [hl2e, hi2e, take_nth (by rw [List.length_set]; omega), List.take_set_of_le (Nat.le_refl _), htk, nth_eq (by rw [List.length_set]; omega), List.getElem_set_self, hx1b]; exact hstp.symm, fun q hq hq2 => by rw [hl2e, nth_eq (by rw [List.length_set]; omega), List.getElem_set_ne (by omega), ← nth_eq (by omega)]; exact hrest q (by omega) hq2⟩
      refine wp_seq ?_
      refine region_q hS
        (cF rfl (oM .t) r1 trivial
        (cF rfl (oM .t) r1 trivial
        (cF rfl (oM .t) r1 trivial
        (cF rfl (oM .t) r1 trivial
        (cF rfl (o_indexAddr_sub (sz := 4) 1 (.mk Try.underlying114 (by kernel_rfl)) .t .t (by omega) (by omega) (by rfl)) r2 r1
        (cF rfl (o_load_row0 (ag := true) (sz' := 4) (sz := 4) 1 .t (by intro x; rfl) (by omega) (by kernel_rfl) (by kernel_rfl) (by kernel_rfl)) r1 r1
        (cF rfl (o_indexAddr_row (sz := 4) 1 (.mk Try.underlying114 (by kernel_rfl)) .is .t (by omega) (by omega) (by rfl)) r2 r1
        (cF rfl (o_store_row (sz := 4) 1 .t (by intro x; rfl) (by omega) (.conv .t (Ent.aggU (l := rEdge (Go.Gm.nth l1 (((k : Int)).toNat + ((j : Int)).toNat))) rfl rfl)) (by kernel_rfl)) r2 r1
        Chain.nil))))))))
        hB ?_
      clear hS; intro a w F hS
      obtain ⟨F, hS⟩ := hS.nm [51, 50, 49, 48, 47, 46, 45, 44, 43, 42, 41, 40, 39, 38, 37, 36, 35, 32, 31, 30, 29, 28, 27, 26, 25, 24, 23, 22, 21, 20, 19, 18, 17, 16, 13, 12, 11, 10, 5, 4, 3, 2, 0] [1, 0] rfl rfl
      try dsimp only [List.map, stCells, xL, xM, Nat.reduceAdd, xD, xE, xT, xU, xC, xN, zCF, ldSF, rEdge] at hS
      try simp only [Int.toNat_natCast] at hS
      rw [← hl2e] at hS
      refine then_n ?_
      refine region_q hS
        (cF rfl (oM .t) r1 trivial
        (cF rfl (o_add .t (.ci (by kernel_rfl))) r1 trivial
        (cF rfl (oN .t) r1 trivial
        Chain.nil)))
        hB ?_
      clear hS; intro a w F hS
      obtain ⟨F, hS⟩ := hS.nm [53, 52, 51, 50, 49, 48, 47, 46, 45, 44, 43, 42, 41, 40, 39, 38, 37, 36, 35, 32, 31, 30, 29, 28, 27, 26, 25, 24, 23, 22, 21, 20, 19, 18, 17, 16, 13, 12, 11, 10, 5, 4, 3, 2, 0] [1, 0] rfl rfl
      try dsimp only [rEdge] at hS
      refine block_n (then_n ?_)
      refine region_q hS
        (cF rfl (oM .t) r1 trivial
        (cF rfl (o_add .t (.ci (by kernel_rfl))) r1 trivial
        (cF rfl (oN .t) r1 trivial
        Chain.nil)))
        hB ?_
      clear hS; intro a w F hS
      obtain ⟨F, hS⟩ := hS.nm [53, 52, 51, 50, 49, 48, 47, 46, 45, 44, 43, 42, 41, 40, 39, 38, 37, 36, 35, 34, 33, 32, 31, 30, 29, 28, 27, 26, 25, 24, 23, 22, 21, 20, 19, 18, 17, 16, 13, 12, 11, 10, 5, 4, 3, 2, 0] [1, 0] rfl rfl
      try dsimp only [rEdge] at hS
      refine then_n ?_
      have hmu : l.length - (j + 1) < l.length - j := by omega
      replace hS := hS.ent (i := 3) (s' := .pv (.int .i64 (i2 : Int))) rfl (.int hi2)
      replace hS := hS.ent (i := 5) (s' := .pv (.int .i64 ((j + 1 : Nat) : Int))) rfl (.int (wrap_succ (by omega)))
      obtain ⟨F, hS⟩ := hS.nm [28, 27, 26, 25, 24, 23, 22, 21, 20, 19, 18, 17, 16, 13, 12, 11, 10, 4, 2, 0, 5, 3] [0, 1] rfl rfl
      exact ⟨((i2), (j + 1), (l2)), F, hC2, hS, hmu⟩
     have heq2 : Go.Gm.nth l (k + j - 1) = Go.Gm.nth l (k + j) := by rw [← hx1, ← hx0]; simp only [eqED] at hc4; simp at hc4 ⊢; exact hc4.symm
     rw [if_pos heq2] at hstp
     obtain ⟨i2, hi2e⟩ : ∃ i2, i2 = k1 := ⟨_, rfl⟩
     have hi2 : (k1 : Int) = (i2 : Int) := by rw [hi2e]
     obtain ⟨l2, hl2e⟩ : ∃ l2, l2 = l1 := ⟨_, rfl⟩
     rw [← hl2e] at hS
     have hC2 : 1 ≤ j + 1 ∧ j + 1 ≤ l.length - k ∧ k ≤ i2 ∧ i2 ≤ k + (j + 1) - 1 ∧ l2.length = l.length ∧ l2.take i2 = compactG (l.take (k + (j + 1))) ∧ ∀ q, k + (j + 1) - 1 ≤ q → q < l.length → Go.Gm.nth l2 q = Go.Gm.nth l q := ⟨by omega, by omega, by omega, by omega, by rw [hl2e]; exact hl1, by rw [hl2e, hi2e, htk]; exact hstp.symm, fun q hq hq2 => by rw [hl2e]; exact hrest q (by omega) hq2⟩
     refine wp_skip (block_n (then_n ?_))
     refine region_q hS
       (cF rfl (oM .t) r1 trivial
       (cF rfl (o_add .t (.ci (by kernel_rfl))) r1 trivial
       (cF rfl (oN .t) r1 trivial
       Chain.nil)))
       hB ?_
     clear hS; intro a w F hS
     obtain ⟨F, hS⟩ := hS.nm [44, 43, 42, 41, 40, 39, 38, 37, 36, 35, 34, 33, 32, 31, 30, 29, 28, 27, 26, 25, 24, 23, 22, 21, 20, 19, 18, 17, 16, 13, 12, 11, 10, 5, 4, 3, 2, 0] [1, 0] rfl rfl
     try dsimp only [rEdge] at hS
     refine then_n ?_
     have hmu : l.length - (j + 1) < l.length - j := by omega
     replace hS := hS.ent (i := 3) (s' := .pv (.int .i64 (i2 : Int))) rfl (.int hi2)
     replace hS := hS.ent (i := 5) (s' := .pv (.int .i64 ((j + 1 : Nat) : Int))) rfl (.int (wrap_succ (by omega)))
     obtain ⟨F, hS⟩ := hS.nm [28, 27, 26, 25, 24, 23, 22, 21, 20, 19, 18, 17, 16, 13, 12, 11, 10, 4, 2, 0, 5, 3] [0, 1] rfl rfl
     exact ⟨((i2), (j + 1), (l2)), F, hC2, hS, hmu⟩
    have hjl : k + j = l.length := by simp at hc3; omega
    have hg : (compactG l) = (l1.take k1 ++ List.replicate (l1.length - k1) noE).take k1 := by rw [List.take_append_of_le_length (by rw [List.length_take]; omega), List.take_take, Nat.min_self, htk, hjl, List.take_length]
    refine wp_exit (then_x (then_x (block_x (then_n (wp_seq ?_)))))
    refine region_q hS
      (cF rfl (oM .t) r1 trivial
      (cF rfl (oM .t) r1 trivial
      (cF rfl (o_sub_row (sz := 4) 1 (.mk Try.underlying114 (by kernel_rfl)) .is .t (by omega) (by omega)) r2 r1
      (cF rfl (o_clear_row (R := rEdge) (z := noE) (zs := [.int .i64 0, .int .i64 0, .int .i64 0, .int .i64 0]) 1 Try.underlying114 (by kernel_rfl) rfl rfl noE_zero (by intro x; rfl) .t (by simp; omega)) r1 r1
      Chain.nil))))
      hB ?_
    clear hS; intro a w F hS
    obtain ⟨F, hS⟩ := hS.nm [56, 55, 54, 32, 31, 30, 29, 28, 27, 26, 25, 24, 23, 22, 21, 20, 19, 18, 17, 16, 13, 12, 11, 10, 5, 4, 3, 2, 0] [1, 0] rfl rfl
    try dsimp only [rEdge] at hS
    refine then_n (wp_seq ?_)
    refine region_q hS
      (cF rfl (oM .t) r1 trivial
      (cF rfl (oM .t) r1 trivial
      (cF rfl (o_cut_row (sz := 4) 1 (.mk Try.underlying114 (by kernel_rfl)) (by intro x; rfl) .is .t (by omega) (by simp; omega)) r2 r1
      (cF rfl (oN .t) r1 trivial
      Chain.nil))))
      hB ?_
    clear hS; intro a w F hS
    replace hS := hS.sub
    obtain ⟨F, hS⟩ := hS.nm [59, 58, 57, 56, 55, 54, 32, 31, 30, 29, 28, 27, 26, 25, 24, 23, 22, 21, 20, 19, 18, 17, 16, 13, 12, 11, 10, 5, 4, 3, 2, 0] [1, 0] rfl rfl
    try dsimp only [RS.sub, SF.sub, CF.sub, csub, Anc.sub, List.map, rEdge] at hS
    generalize Act.tau a 59 = v59 at hS
    refine then_n (wp_ret (block_r (then_r (then_r (block_r (then_r ?_))))))
    have hS := hS.turn 1 rfl (r' := RS.hp (rowH 24 4 rEdge (compactG l) v59)) (fun _ _ _ _ h => by rw [hg]; exact h)
    refine ret_N1 (h' := fun v => rowH 24 4 rEdge (compactG l) v) hG hS rfl (.tmp rfl .nil) (.one .one) rfl
   have hne : ¬ Go.Gm.nth l (k - 1) = Go.Gm.nth l k := by rw [hy0] at hc2; simp only [eqED] at hc2; simp at hc2; exact fun e => hc2 e.symm
   rw [if_neg hne] at hst
   refine wp_skip (block_n (then_n ?_))
   refine region_q hS
     (cF rfl (oM .t) r1 trivial
     (cF rfl (o_add .t (.ci (by kernel_rfl))) r1 trivial
     (cF rfl (oN .t) r1 trivial
     Chain.nil)))
     hB ?_
   clear hS; intro a w F hS
   obtain ⟨F, hS⟩ := hS.nm [25, 24, 23, 22, 21, 20, 19, 18, 17, 16, 15, 14, 13, 12, 11, 10, 3, 2, 0] [1, 0] rfl rfl
   try dsimp only [rEdge] at hS
   refine then_n ?_
   replace hS := hS.ent (i := 3) (s' := .pv (.int .i64 ((k + 1 : Nat) : Int))) rfl (.int (wrap_succ (by omega)))
   obtain ⟨F, hS⟩ := hS.nm [2, 0, 3] [1, 0] rfl rfl
   exact ⟨(k + 1), F, ⟨by omega, by omega, by rw [hst, hkc, ← take_nth hil]⟩, hS, by omega⟩
  have hg : (compactG l) = l := by rw [show k = l.length by simp at hc1; omega, List.take_length] at hkc; exact hkc
  refine wp_exit (then_x (then_x (block_x (then_n (wp_seq ?_)))))
  refine region_q hS
    (cF rfl (oM .t) r1 trivial
    (cF rfl (oN .t) r1 trivial
    Chain.nil))
    hB ?_
  clear hS; intro a w F hS
  obtain ⟨F, hS⟩ := hS.nm [2] [1, 0] rfl rfl
  try dsimp only [rEdge] at hS
  refine then_n (wp_ret ?_)
  have hS := hS.turn 1 rfl (r' := RS.hp (rowH 24 4 rEdge (compactG l) v)) (fun _ _ _ _ h => by rw [hg]; exact h)
  refine ret_N1 (h' := fun v => rowH 24 4 rEdge (compactG l) v) hG hS rfl (.tmp rfl .nil) (.one .one) rfl

end Go.Proofs.Ytpnaolljmhhdbaa
