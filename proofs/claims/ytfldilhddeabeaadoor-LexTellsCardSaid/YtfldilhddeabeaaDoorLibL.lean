/- Calls that change objects; structs put together; tuples taken apart; loops. No condition. -/
import Derived.Test.YtfldilhddeabeaaDoorLibK
namespace Go.Gm
set_option linter.unusedVariables false
set_option linter.unusedSimpArgs false
open Go.RowKit

/-- The place of a number in a list, from k on. -/
def idx (l : List Nat) (n : Nat) (k : Nat) : Nat := match l with
  | [] => 0
  | x :: l => if x = n then k else idx l n (k + 1)
theorem idx_mem : ∀ {l : List Nat} {n k : Nat}, n ∈ l → k ≤ idx l n k ∧ l[idx l n k - k]? = some n
  | [], n, k, h => by cases h
  | x :: l, n, k, h => by
    simp only [idx]
    by_cases e : x = n
    · subst e; simp
    · rw [if_neg e]
      have := idx_mem (l := l) (n := n) (k := k + 1) (by rcases List.mem_cons.1 h with h | h; exact absurd h.symm e; exact h)
      exact ⟨by omega, by rw [show idx l n (k + 1) - k = (idx l n (k + 1) - (k + 1)) + 1 by omega]; simpa using this.2⟩
theorem idx_get : ∀ {l : List Nat} {n k i : Nat}, l.Nodup → l[i]? = some n → idx l n k = k + i
  | [], n, k, i, _, h => by simp at h
  | x :: l, n, k, 0, _, h => by simp at h; subst h; simp [idx]
  | x :: l, n, k, i + 1, hd, h => by
    simp only [idx]
    have hn : n ∈ l := by rw [List.getElem?_cons_succ] at h; exact List.mem_of_getElem? h
    have hne : x ≠ n := fun e => by subst e; exact (List.nodup_cons.1 hd).1 hn
    rw [if_neg hne, idx_get (List.nodup_cons.1 hd).2 (by simpa using h)]
    omega

/-- What the callee sees: the rest is 0, the objects are 1, 2, .. -/
def calleeF (F : Fp) (is : List Nat) : Fp := fun n b => (n = 0 ∧ ∃ k, k ∉ is ∧ F k b) ∨ (n ≠ 0 ∧ ∃ k, is[n - 1]? = some k ∧ F k b)
theorem callee_U {F : Fp} {is : List Nat} (b : Nat) : U (calleeF F is) b ↔ U F b := by
  constructor
  · rintro ⟨n, ⟨_, k, _, hk⟩ | ⟨_, k, _, hk⟩⟩
    · exact ⟨k, hk⟩
    · exact ⟨k, hk⟩
  · rintro ⟨k, hk⟩
    by_cases h : k ∈ is
    · obtain ⟨i, hi⟩ := List.mem_iff_getElem?.1 h
      exact ⟨i + 1, .inr ⟨by omega, k, by simpa using hi, hk⟩⟩
    · exact ⟨0, .inl ⟨rfl, k, h, hk⟩⟩
theorem callee_wf {F : Fp} {is : List Nat} {w : World} (hd : is.Nodup) (hw : Wf F w) : Wf (calleeF F is) w := by
  refine ⟨fun n m b hn hm => ?_, fun n b hn => ?_⟩
  · rcases hn with ⟨rfl, k, h1, h2⟩ | ⟨hn, k, h1, h2⟩ <;> rcases hm with ⟨rfl, k', h3, h4⟩ | ⟨hm, k', h3, h4⟩
    · rfl
    · have := hw.dis k k' b h2 h4
      subst this
      exact absurd (List.mem_of_getElem? h3) h1
    · have := hw.dis k k' b h2 h4
      subst this
      exact absurd (List.mem_of_getElem? h1) h3
    · have := hw.dis k k' b h2 h4
      subst this
      have h5 := idx_get (k := 0) hd h1
      have h6 := idx_get (k := 0) hd h3
      omega
  · obtain ⟨k, hk⟩ := (callee_U (F := F) (is := is) b).1 ⟨n, hn⟩
    exact hw.bd k b hk
theorem callee_get {F : Fp} {is : List Nat} {i k : Nat} (h : is[i]? = some k) : calleeF F is (i + 1) = F k := by
  funext b
  refine propext ⟨?_, fun hb => .inr ⟨by omega, k, by simpa using h, hb⟩⟩
  rintro (⟨h0, _⟩ | ⟨_, k', h1, h2⟩)
  · omega
  · simp only [Nat.add_sub_cancel] at h1
    rw [h] at h1
    simp at h1
    subst h1; exact h2
theorem callee_zero {F : Fp} {is : List Nat} {b : Nat} : calleeF F is 0 b ↔ ∃ k, k ∉ is ∧ F k b := by
  refine ⟨?_, fun h => .inl ⟨rfl, h⟩⟩
  rintro (⟨_, h⟩ | ⟨h0, _⟩)
  · exact h
  · exact absurd rfl h0
theorem callee_lt {F : Fp} {is : List Nat} {n b : Nat} (h : calleeF F is n b) : n ≤ is.length := by
  rcases h with ⟨rfl, _⟩ | ⟨h0, k, h1, _⟩
  · omega
  · have := (List.getElem?_eq_some_iff.1 h1).1
    omega

def backF (F : Fp) (is : List Nat) (Fc' : Fp) : Fp := fun n => if n ∈ is then Fc' (idx is n 1) else F n

section
variable {P : Program} {d : Option Nat} {ty : TypeId} {pos : String} {af : Array Edge} {g : Option (Nat × Bool)}

/-- A call of a function that changes objects: 'is': their handles here. -/
theorem o_callG {f : FuncId} {args : Array Operand} {tys : Array TypeId} {d' : Nat} {ps : List (Nat × SF)} {m : Nat} {avs : List PV} {pr : List HP} {q : PV} {qr : Value → List HP} {fn : Func} {is : List Nat} {prs qrs : List (Nat × RS)} {s : SF}
    (hc : FnG P f m avs pr q qr) (hf : P.funcs[f]? = some fn) (hb : fn.body.isSome = true) (hn : (fn.name == "runtime.NumGoroutine") = false)
    (ha : ∀ (a : Act) w y, Hps ps (Act.tau a) w y → ∃ vs : List Value, args.map a.eval = vs.toArray ∧ PVt avs vs w y)
    (hl : is.length = m) (hd : is.Nodup) (hps : ∀ τ w F, Hpr prs τ w F → ∀ (i : Nat) (h : HP), pr[i]? = some h → ∃ k, is[i]? = some k ∧ h.p w (F k) (U F))
    (hs : ∀ τ w y v, q.p v w y → s.holds (upd τ (some d') v) w y v)
    (hqs : ∀ x ∈ qrs, ∃ i : Nat, is[i]? = some x.1 ∧ ∀ v τ w f y, (∃ h : HP, (qr v)[i]? = some h ∧ h.p w f y) → x.2.holds (upd τ (some d') v) w f y) (hW : qrs.map (·.1) = is) (hql : ∀ v, (qr v).length = m) :
    OpC P ⟨some d', .call { callee := .value (.func f), args := args, argTypes := tys }, ty, pos, af, g⟩ ⟨ps, prs, s, qrs⟩ := fun a w F K Q hw hp hr ht => by
  obtain ⟨vs, e, hvs⟩ := ha a w (U F) hp
  have hbn : fn.body ≠ none := by intro h; rw [h] at hb; cases hb
  have hn' : fn.name ≠ "runtime.NumGoroutine" := by intro h; rw [h] at hn; simp at hn
  have hrun : (execOp a.eval ⟨some d', .call { callee := .value (.func f), args := args, argTypes := tys }, ty, pos, af, g⟩).run P w = .ok (.enter f vs.toArray) w := by
    have e2 : a.eval (.func f) = .func (.func f) #[] #[] := rfl
    simp [execOp, resolve, e, e2, Deferred.ofValue, invoke, callFunc, hf, hn', hbn]
  simp only [Oper.wp, hrun, Oper.upon]
  have hUc : U (calleeF F is) = U F := by funext b; exact propext (callee_U b)
  have hcF : ∀ i k, is[i]? = some k → calleeF F is (i + 1) = F k := fun i k hk => callee_get hk
  refine (hc w (calleeF F is) vs (callee_wf hd hw) (fun n b hn => ?_) (by rw [hUc]; exact hvs) (fun i h hi => ?_)).mono ?_
  · rw [← hl]; exact callee_lt hn
  · obtain ⟨k, h1, h2⟩ := hps _ _ _ hr i h hi
    rw [hUc, hcF i k h1]; exact h2
  rintro e' w' ⟨v, Fc', rfl, hwf', hst, hle', hq, hqr⟩
  have hc0 : Fc' 0 = calleeF F is 0 := hst.fkeep 0 (by rw [List.mem_range'_1]; omega)
  have hc00 : ∀ b, calleeF F is 0 b ↔ ∃ k, k ∉ is ∧ F k b := fun b => callee_zero
  have hback : ∀ i k, is[i]? = some k → backF F is Fc' k = Fc' (i + 1) := by
    intro i k hk
    unfold backF
    rw [if_pos (List.mem_of_getElem? hk), idx_get hd hk, Nat.add_comm]
  have hout : ∀ k, k ∉ is → backF F is Fc' k = F k := fun k hk => by unfold backF; rw [if_neg hk]
  have hU' : U (backF F is Fc') = U Fc' := by
    funext b
    refine propext ⟨?_, ?_⟩
    · rintro ⟨k, hk⟩
      by_cases h : k ∈ is
      · obtain ⟨i, hi⟩ := List.mem_iff_getElem?.1 h
        rw [hback i k hi] at hk; exact ⟨i + 1, hk⟩
      · rw [hout k h] at hk
        exact ⟨0, by rw [hc0, hc00]; exact ⟨k, h, hk⟩⟩
    · rintro ⟨n, hn⟩
      by_cases e0 : n = 0
      · subst e0
        rw [hc0, hc00] at hn
        obtain ⟨k, h, hk⟩ := hn
        exact ⟨k, by rw [hout k h]; exact hk⟩
      · have hnm := hle' n b hn
        have hlt : n - 1 < is.length := by omega
        refine ⟨is[n - 1], ?_⟩
        rw [hback (n - 1) _ (by simp [hlt]), show n - 1 + 1 = n by omega]; exact hn
  have hwfb : Wf (backF F is Fc') w' := by
    refine ⟨fun n k b hn hk => ?_, fun n b hn => ?_⟩
    · by_cases h1 : n ∈ is <;> by_cases h2 : k ∈ is
      · obtain ⟨i, hi⟩ := List.mem_iff_getElem?.1 h1
        obtain ⟨j, hj⟩ := List.mem_iff_getElem?.1 h2
        rw [hback i n hi] at hn
        rw [hback j k hj] at hk
        have := hwf'.dis _ _ b hn hk
        have e : i = j := by omega
        subst e
        rw [hi] at hj; simpa using hj
      · obtain ⟨i, hi⟩ := List.mem_iff_getElem?.1 h1
        rw [hback i n hi] at hn
        rw [hout k h2] at hk
        have h0 : Fc' 0 b := by rw [hc0, hc00]; exact ⟨k, h2, hk⟩
        have := hwf'.dis _ _ b hn h0
        omega
      · obtain ⟨j, hj⟩ := List.mem_iff_getElem?.1 h2
        rw [hback j k hj] at hk
        rw [hout n h1] at hn
        have h0 : Fc' 0 b := by rw [hc0, hc00]; exact ⟨n, h1, hn⟩
        have := hwf'.dis _ _ b hk h0
        omega
      · rw [hout n h1] at hn
        rw [hout k h2] at hk
        exact hw.dis n k b hn hk
    · have : U Fc' b := by rw [← hU']; exact ⟨n, hn⟩
      obtain ⟨k, hk⟩ := this
      exact hwf'.bd k b hk
  have hWis : CD.W ⟨ps, prs, s, qrs⟩ = is := hW
  have hstp : Stp (CD.W ⟨ps, prs, s, qrs⟩) w F w' (backF F is Fc') := by
    rw [hWis]
    refine ⟨hst.os, hst.tape, hst.output, hst.size, fun b hb hn => hst.keep b hb (fun n hn' hnb => ?_), fun n hn => hout n hn, fun n hn b hb => ?_⟩
    · rw [List.mem_range'_1] at hn'
      have hlt : n - 1 < is.length := by omega
      have e1 := hcF (n - 1) is[n - 1] (by simp [hlt])
      rw [show n - 1 + 1 = n by omega] at e1
      rw [e1] at hnb
      exact hn _ (List.getElem_mem hlt) hnb
    · obtain ⟨i, hi⟩ := List.mem_iff_getElem?.1 hn
      rw [hback i n hi] at hb
      have him := (List.getElem?_eq_some_iff.1 hi).1
      rcases hst.fnew (i + 1) (by rw [List.mem_range'_1]; omega) b hb with ⟨k, hk, hkb⟩ | h'
      · rw [List.mem_range'_1] at hk
        have hlt : k - 1 < is.length := by omega
        have e1 := hcF (k - 1) is[k - 1] (by simp [hlt])
        rw [show k - 1 + 1 = k by omega] at e1
        rw [e1] at hkb
        exact .inl ⟨_, List.getElem_mem hlt, hkb⟩
      · exact .inr h'
  refine ht v w' _ hwfb hstp ?_ ?_
  · rw [hU']; exact hs _ _ _ _ hq
  · intro x hx
    obtain ⟨i, h1, h2⟩ := hqs x hx
    rw [hU']
    have him := (List.getElem?_eq_some_iff.1 h1).1
    have hlt : i < (qr v).length := by rw [hql]; omega
    refine h2 v _ _ _ _ ⟨(qr v)[i], by simp [hlt], ?_⟩
    rw [hback i x.1 h1]
    exact hqr i _ (by simp [hlt])

/-- One object, told anew. -/
theorem o_callG1 {f : FuncId} {args : Array Operand} {tys : Array TypeId} {d' : Nat} {ps : List (Nat × SF)} {avs : List PV} {h h' : HP} {q : PV} {fn : Func} (n : Nat)
    (hc : FnG P f 1 avs [h] q (fun _ => [h'])) (hf : P.funcs[f]? = some fn) (hb : fn.body.isSome = true) (hn : (fn.name == "runtime.NumGoroutine") = false)
    (ha : ∀ (a : Act) w y, Hps ps (Act.tau a) w y → ∃ vs : List Value, args.map a.eval = vs.toArray ∧ PVt avs vs w y) :
    OpC P ⟨some d', .call { callee := .value (.func f), args := args, argTypes := tys }, ty, pos, af, g⟩ ⟨ps, [(n, RS.hp h)], .pv q, [(n, RS.hp h')]⟩ :=
  o_callG (is := [n]) hc hf hb hn ha rfl (by simp) (fun τ w F hr i x hi => by
      match i, hi with
      | 0, hi => simp at hi; subst hi; exact ⟨n, rfl, hr (n, RS.hp h) (by simp)⟩)
    (fun _ _ _ _ h => h) (fun x hx => by
      simp only [List.mem_singleton] at hx
      subst hx
      exact ⟨0, rfl, fun v τ w f y ⟨k, hk, hp⟩ => by simp at hk; subst hk; exact hp⟩) rfl (fun _ => rfl)
/-- A new object, known by the result. -/
theorem o_callN {f : FuncId} {args : Array Operand} {tys : Array TypeId} {d' : Nat} {ps : List (Nat × SF)} {avs : List PV} {h' : Value → HP} {q : PV} {fn : Func} (n : Nat)
    (hc : FnG P f 1 avs [HP.star []] q (fun v => [h' v])) (hf : P.funcs[f]? = some fn) (hb : fn.body.isSome = true) (hn : (fn.name == "runtime.NumGoroutine") = false)
    (ha : ∀ (a : Act) w y, Hps ps (Act.tau a) w y → ∃ vs : List Value, args.map a.eval = vs.toArray ∧ PVt avs vs w y) (h1 : ∀ v w y, q.p v w y → v.oneCell' = true) :
    OpC P ⟨some d', .call { callee := .value (.func f), args := args, argTypes := tys }, ty, pos, af, g⟩ ⟨ps, [(n, RS.hp (HP.star []))], .same d', [(n, RS.ob (.slot d') h')]⟩ :=
  o_callG (is := [n]) hc hf hb hn ha rfl (by simp) (fun τ w F hr i x hi => by
      match i, hi with
      | 0, hi => simp at hi; subst hi; exact ⟨n, rfl, hr (n, RS.hp (HP.star [])) (by simp)⟩)
    (fun _ _ _ _ h => ⟨by simp [upd], h1 _ _ _ h⟩) (fun x hx => by
      simp only [List.mem_singleton] at hx
      subst hx
      exact ⟨0, rfl, fun v τ w f y ⟨k, hk, hp⟩ => by
        simp at hk; subst hk
        simpa [RS.holds, Anc.v, upd] using hp⟩) rfl (fun _ => rfl)
end
end Go.Gm
