/- A region that draws its order: what holds behind its operations in the text's order holds behind them in any, if no two that may come in either order stand in each other's way ('drf'). No condition. -/
import Derived.Test.YtfldilhddeabeaaDoorLibF
namespace Go.Gm
set_option linter.unusedVariables false
set_option linter.unusedSimpArgs false

/-- What is known behind those steps of the text that T names. -/
def runT : En → List Oper → List CD → (Nat → Bool) → Nat → En
  | E, o :: l, c :: cs, T, k => runT (if T k then E.step o c else E) l cs T (k + 1)
  | E, _, _, _, _ => E

theorem step_look_s {E : En} {o : Oper} {c : CD} (i : Nat) : look (E.step o c).s i = if o.dst = some i then some c.q else look E.s i := by
  unfold En.step
  cases h : o.dst with
  | none => simp
  | some d => simp only []; rw [look_cons]; by_cases e : d = i <;> simp [e]
theorem step_look_r {E : En} {o : Oper} {c : CD} (n : Nat) : look (E.step o c).r n = if n ∈ c.W then look c.qr n else look E.r n := by
  unfold En.step
  simp only []
  rw [look_append]
  by_cases h : n ∈ c.W
  · rw [if_pos h]
    obtain ⟨x, hx⟩ := look_some (l := c.qr) (i := n) h
    rw [hx]; rfl
  · rw [if_neg h, look_none (l := c.qr) (i := n) h]; simp

theorem runT_s {T1 T2 : Nat → Bool} {i : Nat} : ∀ (l : List Oper) (cs : List CD) (E1 E2 : En) (k : Nat), (∀ j o, l[j]? = some o → o.dst = some i → T1 (k + j) = T2 (k + j)) → look E1.s i = look E2.s i →
    look (runT E1 l cs T1 k).s i = look (runT E2 l cs T2 k).s i
  | [], _, _, _, _, _, h => by simpa [runT] using h
  | _ :: _, [], _, _, _, _, h => by simpa [runT] using h
  | o :: l, c :: cs, E1, E2, k, ht, h => by
    simp only [runT]
    refine runT_s l cs _ _ (k + 1) (fun j o' hj hd => by have := ht (j + 1) o' (by simpa using hj) hd; rw [show k + 1 + j = k + (j + 1) by omega]; exact this) ?_
    by_cases hd : o.dst = some i
    · have e := ht 0 o rfl hd
      simp only [Nat.add_zero] at e
      rw [e]
      split
      · rw [step_look_s, step_look_s, if_pos hd, if_pos hd]
      · exact h
    · have e1 : look (if T1 k then E1.step o c else E1).s i = look E1.s i := by split; rw [step_look_s, if_neg hd]; rfl
      have e2 : look (if T2 k then E2.step o c else E2).s i = look E2.s i := by split; rw [step_look_s, if_neg hd]; rfl
      rw [e1, e2]; exact h
theorem runT_r {T1 T2 : Nat → Bool} {n : Nat} : ∀ (l : List Oper) (cs : List CD) (E1 E2 : En) (k : Nat), (∀ j c, cs[j]? = some c → n ∈ c.W → T1 (k + j) = T2 (k + j)) → look E1.r n = look E2.r n →
    look (runT E1 l cs T1 k).r n = look (runT E2 l cs T2 k).r n
  | [], _, _, _, _, _, h => by simpa [runT] using h
  | _ :: _, [], _, _, _, _, h => by simpa [runT] using h
  | o :: l, c :: cs, E1, E2, k, ht, h => by
    simp only [runT]
    refine runT_r l cs _ _ (k + 1) (fun j c' hj hd => by have := ht (j + 1) c' (by simpa using hj) hd; rw [show k + 1 + j = k + (j + 1) by omega]; exact this) ?_
    by_cases hd : n ∈ c.W
    · have e := ht 0 c rfl hd
      simp only [Nat.add_zero] at e
      rw [e]
      split
      · rw [step_look_r, step_look_r, if_pos hd, if_pos hd]
      · exact h
    · have e1 : look (if T1 k then E1.step o c else E1).r n = look E1.r n := by split; rw [step_look_r, if_neg hd]; rfl
      have e2 : look (if T2 k then E2.step o c else E2).r n = look E2.r n := by split; rw [step_look_r, if_neg hd]; rfl
      rw [e1, e2]; exact h

/-- The last that writes. -/
theorem runT_last_s {T : Nat → Bool} {i : Nat} : ∀ (l : List Oper) (cs : List CD) (E : En) (k j : Nat) (o : Oper) (c : CD), l[j]? = some o → cs[j]? = some c → o.dst = some i → T (k + j) = true →
    (∀ j' o', j < j' → l[j']? = some o' → o'.dst = some i → T (k + j') = false) → look (runT E l cs T k).s i = some c.q
  | [], _, _, _, _, _, _, h, _, _, _, _ => by simp at h
  | _ :: _, [], _, _, _, _, _, _, h, _, _, _ => by simp at h
  | o :: l, c :: cs, E, k, 0, o', c', ho, hc, hd, hT, hl => by
    simp at ho hc
    subst ho; subst hc
    simp only [Nat.add_zero] at hT
    simp only [runT, hT, if_true]
    rw [runT_s (T1 := T) (T2 := fun _ => false) l cs (E.step o c) (E.step o c) (k + 1) (fun j o' hj hd' => by
      have := hl (j + 1) o' (by omega) (by simpa using hj) hd'
      rw [show k + 1 + j = k + (j + 1) by omega]; exact this) rfl]
    have hnone : ∀ (l : List Oper) (cs : List CD) (E : En) (k : Nat), runT E l cs (fun _ => false) k = E := by
      intro l
      induction l with
      | nil => intro cs E k; simp [runT]
      | cons o l ih => intro cs E k; cases cs with
        | nil => simp [runT]
        | cons c cs => simp only [runT]; exact ih cs E (k + 1)
    rw [hnone, step_look_s, if_pos hd]
  | o :: l, c :: cs, E, k, j + 1, o', c', ho, hc, hd, hT, hl => by
    simp only [runT]
    exact runT_last_s l cs _ (k + 1) j o' c' (by simpa using ho) (by simpa using hc) hd (by rw [show k + 1 + j = k + (j + 1) by omega]; exact hT)
      (fun j' o'' hj ho' hd' => by rw [show k + 1 + j' = k + (j' + 1) by omega]; exact hl (j' + 1) o'' (by omega) (by simpa using ho') hd')
theorem runT_none : ∀ (l : List Oper) (cs : List CD) (E : En) (k : Nat), runT E l cs (fun _ => false) k = E := by
  intro l
  induction l with
  | nil => intro cs E k; simp [runT]
  | cons o l ih => intro cs E k; cases cs with
    | nil => simp [runT]
    | cons c cs => simp only [runT]; exact ih cs E (k + 1)
theorem runT_last_r {T : Nat → Bool} {n : Nat} : ∀ (l : List Oper) (cs : List CD) (E : En) (k j : Nat) (c : CD), cs[j]? = some c → j < l.length → n ∈ c.W → T (k + j) = true →
    (∀ j' c', j < j' → cs[j']? = some c' → n ∈ c'.W → T (k + j') = false) → look (runT E l cs T k).r n = look c.qr n
  | [], _, _, _, _, _, _, h, _, _, _ => by simp at h
  | _ :: _, [], _, _, _, _, h, _, _, _, _ => by simp at h
  | o :: l, c :: cs, E, k, 0, c', hc, hlen, hd, hT, hl => by
    simp at hc
    subst hc
    simp only [Nat.add_zero] at hT
    simp only [runT, hT, if_true]
    rw [runT_r (T1 := T) (T2 := fun _ => false) l cs (E.step o c) (E.step o c) (k + 1) (fun j c' hj hd' => by
      have := hl (j + 1) c' (by omega) (by simpa using hj) hd'
      rw [show k + 1 + j = k + (j + 1) by omega]; exact this) rfl]
    rw [runT_none, step_look_r, if_pos hd]
  | o :: l, c :: cs, E, k, j + 1, c', hc, hlen, hd, hT, hl => by
    simp only [runT]
    exact runT_last_r l cs _ (k + 1) j c' (by simpa using hc) (by simpa using hlen) hd (by rw [show k + 1 + j = k + (j + 1) by omega]; exact hT)
      (fun j' c'' hj hc' hd' => by rw [show k + 1 + j' = k + (j' + 1) by omega]; exact hl (j' + 1) c'' (by omega) (by simpa using hc') hd')

/-- Where a fact comes from. -/
theorem runT_from_s {T : Nat → Bool} {i : Nat} {s : SF} : ∀ (l : List Oper) (cs : List CD) (E : En) (k : Nat), look (runT E l cs T k).s i = some s →
    look E.s i = some s ∨ ∃ j c, cs[j]? = some c ∧ j < l.length ∧ T (k + j) = true ∧ s = c.q
  | [], _, _, _, h => .inl (by simpa [runT] using h)
  | _ :: _, [], _, _, h => .inl (by simpa [runT] using h)
  | o :: l, c :: cs, E, k, h => by
    simp only [runT] at h
    rcases runT_from_s l cs _ (k + 1) h with h | ⟨j, c', h1, h2, h3, h4⟩
    · split at h
      · rename_i hT
        rw [step_look_s] at h
        split at h
        · simp at h; exact .inr ⟨0, c, rfl, by simp, by simpa using hT, h.symm⟩
        · exact .inl h
      · exact .inl h
    · exact .inr ⟨j + 1, c', by simpa using h1, by simpa using h2, by rw [show k + (j + 1) = k + 1 + j by omega]; exact h3, h4⟩
theorem runT_from_r {T : Nat → Bool} {n : Nat} {r : RS} : ∀ (l : List Oper) (cs : List CD) (E : En) (k : Nat), look (runT E l cs T k).r n = some r →
    look E.r n = some r ∨ ∃ j c, cs[j]? = some c ∧ j < l.length ∧ T (k + j) = true ∧ (n, r) ∈ c.qr
  | [], _, _, _, h => .inl (by simpa [runT] using h)
  | _ :: _, [], _, _, h => .inl (by simpa [runT] using h)
  | o :: l, c :: cs, E, k, h => by
    simp only [runT] at h
    rcases runT_from_r l cs _ (k + 1) h with h | ⟨j, c', h1, h2, h3, h4⟩
    · split at h
      · rename_i hT
        rw [step_look_r] at h
        split at h
        · exact .inr ⟨0, c, rfl, by simp, by simpa using hT, look_mem h⟩
        · exact .inl h
      · exact .inl h
    · exact .inr ⟨j + 1, c', by simpa using h1, by simpa using h2, by rw [show k + (j + 1) = k + 1 + j by omega]; exact h3, h4⟩

/-- Which operations must have come, as bits. -/
def mskOf (acc : List Nat) : List Edge → Nat
  | [] => 0
  | e :: es => if Region.binds .any e then 2 ^ e.on ||| acc.getD e.on 0 ||| mskOf acc es else mskOf acc es
def msks : List Oper → List Nat → List Nat
  | [], acc => acc
  | o :: l, acc => msks l (acc ++ [mskOf acc o.after.toList])

theorem mskOf_bit {acc : List Nat} {j : Nat} : ∀ {es : List Edge}, (mskOf acc es).testBit j = true → ∃ e ∈ es, Region.binds .any e = true ∧ (e.on = j ∨ (acc.getD e.on 0).testBit j = true)
  | [], h => by simp [mskOf] at h
  | e :: es, h => by
    simp only [mskOf] at h
    split at h
    · rename_i hb
      simp only [Nat.testBit_or, Bool.or_eq_true] at h
      rcases h with (h | h) | h
      · refine ⟨e, by simp, hb, .inl ?_⟩
        simpa [Nat.testBit_two_pow] using h
      · exact ⟨e, by simp, hb, .inr h⟩
      · obtain ⟨e', h1, h2⟩ := mskOf_bit h
        exact ⟨e', by simp [h1], h2⟩
    · obtain ⟨e', h1, h2⟩ := mskOf_bit h
      exact ⟨e', by simp [h1], h2⟩

theorem msks_pre : ∀ (l : List Oper) (acc : List Nat), ∃ t, msks l acc = acc ++ t ∧ t.length = l.length
  | [], acc => ⟨[], by simp [msks], rfl⟩
  | o :: l, acc => by
    obtain ⟨t, h1, h2⟩ := msks_pre l (acc ++ [mskOf acc o.after.toList])
    exact ⟨mskOf acc o.after.toList :: t, by simp [msks, h1], by simp [h2]⟩
theorem msks_get : ∀ (l : List Oper) (acc : List Nat) (k : Nat) (o : Oper), l[k]? = some o → (msks l acc).getD (acc.length + k) 0 = mskOf ((msks l acc).take (acc.length + k)) o.after.toList
  | [], _, k, o, h => by simp at h
  | o :: l, acc, 0, o', h => by
    simp at h
    subst h
    obtain ⟨t, h1, h2⟩ := msks_pre l (acc ++ [mskOf acc o.after.toList])
    simp [msks, h1]
  | o :: l, acc, k + 1, o', h => by
    have := msks_get l (acc ++ [mskOf acc o.after.toList]) k o' (by simpa using h)
    simp only [msks]
    simp only [List.length_append, List.length_cons, List.length_nil] at this
    rw [show acc.length + (k + 1) = acc.length + (0 + 1) + k by omega]
    exact this

/-- The closed facts on a region: the edges go back; who may come in either order does not stand in the other's way. -/
structure Info where
  dst : Option Nat
  rs : List Nat
  rr : List Nat
  W : List Nat
  deps : List Nat
def infos : List Oper → List CD → List Info
  | o :: l, c :: cs => ⟨o.dst, c.ps.map (·.1), c.pr.map (·.1), c.W, c.deps⟩ :: infos l cs
  | _, _ => []
def meets (a b : List Nat) : Bool := a.any fun x => b.contains x
def isIn (d : Option Nat) (l : List Nat) : Bool := match d with | some d => l.contains d | none => false
/-- j stands ahead of k in the text: what must be if the edges leave it open. -/
def pairOk (m : Nat) (j : Nat) (a b : Info) : Bool :=
  m.testBit j || (!isIn a.dst b.rs && !isIn b.dst a.rs && !meets a.W b.rr && !meets b.W a.rr && !meets a.W b.W && !isIn a.dst b.deps && !isIn b.dst a.deps)
def pairs : List Nat → Nat → List Info → List Info → Bool
  | m :: ms, k, seen, b :: is => (seen.zipIdx.all fun x => pairOk m x.2 x.1 b && !(match x.1.dst with | some d => isIn (some d) b.dst.toList | none => false) && !isIn b.dst x.1.deps) && pairs ms (k + 1) (seen ++ [b]) is
  | [], _, _, [] => true
  | _, _, _, _ => false
def backs : List Oper → Nat → Bool
  | [], _ => true
  | o :: l, k => (o.after.toList.all fun e => !Region.binds .any e || Nat.blt e.on k) && backs l (k + 1)
def drf (l : List Oper) (cs : List CD) : Bool := backs l 0 && pairs (msks l []) 0 [] (infos l cs) && (cs.length == l.length)

theorem infos_get : ∀ {l : List Oper} {cs : List CD} {k : Nat} {o : Oper} {c : CD}, l[k]? = some o → cs[k]? = some c → (infos l cs)[k]? = some ⟨o.dst, c.ps.map (·.1), c.pr.map (·.1), c.W, c.deps⟩
  | [], _, k, o, c, h, _ => by simp at h
  | _ :: _, [], k, o, c, _, h => by simp at h
  | o :: l, c :: cs, 0, o', c', h, h' => by simp at h h'; subst h; subst h'; rfl
  | o :: l, c :: cs, k + 1, o', c', h, h' => by simpa [infos] using infos_get (l := l) (cs := cs) (k := k) (by simpa using h) (by simpa using h')

theorem pairs_get : ∀ {ms : List Nat} {k : Nat} {seen is : List Info}, pairs ms k seen is = true → ∀ (j i : Nat) (a b : Info), (seen ++ is)[j]? = some a → is[i]? = some b → j < seen.length + i →
    pairOk (ms.getD i 0) j a b = true ∧ (∀ d, a.dst = some d → b.dst ≠ some d) ∧ isIn b.dst a.deps = false
  | [], _, _, [], _, j, i, a, b, _, h, _ => by simp at h
  | [], _, _, _ :: _, h, _, _, _, _, _, _, _ => by simp [pairs] at h
  | _ :: _, _, _, [], h, _, _, _, _, _, _, _ => by simp [pairs] at h
  | m :: ms, k, seen, x :: is, h, j, 0, a, b, ha, hb, hj => by
    simp only [pairs, Bool.and_eq_true, List.all_eq_true] at h
    simp at hb
    subst hb
    have hj' : j < seen.length := by simpa using hj
    have ha' : seen[j]? = some a := by rw [List.getElem?_append_left hj'] at ha; exact ha
    have hm : (a, j) ∈ seen.zipIdx := by
      rw [List.mk_mem_zipIdx_iff_getElem?]; exact ha'
    have := h.1 (a, j) hm
    simp only [Bool.and_eq_true, Bool.not_eq_true'] at this
    refine ⟨by simpa using this.1.1, fun d hd hx => ?_, this.2⟩
    have h2 := this.1.2
    rw [hd] at h2
    simp [isIn, hx] at h2
  | m :: ms, k, seen, x :: is, h, j, i + 1, a, b, ha, hb, hj => by
    simp only [pairs, Bool.and_eq_true] at h
    have := pairs_get h.2 j i a b (by simpa using ha) (by simpa using hb) (by simp; omega)
    simpa using this

theorem backs_get : ∀ {l : List Oper} {k i : Nat} {o : Oper}, backs l k = true → l[i]? = some o → ∀ e ∈ o.after.toList, Region.binds .any e = true → e.on < k + i
  | [], _, _, _, _, h, _, _, _ => by simp at h
  | o :: l, k, 0, o', h, ho, e, he, hb => by
    simp at ho
    subst ho
    simp only [backs, Bool.and_eq_true, List.all_eq_true] at h
    have := h.1 e he
    simp [hb] at this
    simpa [Nat.blt_eq] using this
  | o :: l, k, i + 1, o', h, ho, e, he, hb => by
    simp only [backs, Bool.and_eq_true] at h
    have := backs_get h.2 (by simpa using ho) e he hb
    omega
end Go.Gm
