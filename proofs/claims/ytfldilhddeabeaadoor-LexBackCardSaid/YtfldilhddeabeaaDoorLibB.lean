/- A region in whatever order: if no two of its operations that may come in either order stand in each other's way, what holds behind them in the text's order holds behind them in any. No condition. -/
import Derived.Test.YtfldilhddeabeaaDoorLibA
namespace Go.Gm
set_option linter.unusedVariables false
set_option linter.unusedSimpArgs false

/-- What an operation is told to want, and to leave. -/
structure CD where
  ps : List (Nat × SF)
  pr : List (Nat × RS)
  q : SF
  qr : List (Nat × RS)
def CD.W (c : CD) : List Nat := c.qr.map (·.1)

def Hps (ps : List (Nat × SF)) (τ : Tau) (w : World) (y : Ys) : Prop := ∀ x ∈ ps, x.2.holds τ w y (τ x.1)
def Hpr (pr : List (Nat × RS)) (τ : Tau) (w : World) (F : Fp) : Prop := ∀ x ∈ pr, x.2.holds τ w (F x.1) (U F)

/-- What K must be shown behind the operation. -/
def Then (c : CD) (a : Act) (d : Option Nat) (w : World) (F : Fp) (K : Act → World → Prop) : Prop :=
  ∀ v w' F', Wf F' w' → Stp c.W w F w' F' → c.q.holds (upd (Act.tau a) d v) w' (U F') v → Hpr c.qr (upd (Act.tau a) d v) w' F' → K (a.put d v) w'

/-- The operation, run, does that. -/
def OpC (P : Program) (o : Oper) (c : CD) : Prop :=
  ∀ a w F K Q, Wf F w → Hps c.ps (Act.tau a) w (U F) → Hpr c.pr (Act.tau a) w F → Then c a o.dst w F K → o.wp P a w K Q

/-- The operation with its guard. -/
def Cert (P : Program) (ops : Array Oper) (o : Oper) (c : CD) : Prop :=
  ∀ a w F K Q, Wf F w → Hps c.ps (Act.tau a) w (U F) → Hpr c.pr (Act.tau a) w F → Then c a o.dst w F K →
    if Region.wanted o (yielded ops a.tmps) = true then o.wp P a w K Q else K (a.put o.dst undef) w

def En.step (E : En) (o : Oper) (c : CD) : En := ⟨match o.dst with | some d => (d, c.q) :: E.s | none => E.s, c.qr ++ E.r⟩

def Looks {α : Type} (l : List (Nat × α)) : List (Nat × α) → Prop
  | [] => True
  | x :: xs => look l x.1 = some x.2 ∧ Looks l xs

theorem Looks.get {α : Type} {l : List (Nat × α)} : ∀ {xs}, Looks l xs → ∀ x ∈ xs, look l x.1 = some x.2
  | [], _, x, hx => by cases hx
  | z :: xs, h, x, hx => by
    rcases List.mem_cons.1 hx with rfl | hx
    · exact h.1
    · exact h.2.get x hx

inductive Chain (P : Program) (ops : Array Oper) : En → List Oper → List CD → En → Prop
  | nil {E : En} : Chain P ops E [] [] E
  | cons {E : En} {o : Oper} {c : CD} {l : List Oper} {cs : List CD} {E' : En} (hc : Cert P ops o c) (hs : Looks E.s c.ps) (hr : Looks E.r c.pr)
      (t : Chain P ops (E.step o c) l cs E') : Chain P ops E (o :: l) (c :: cs) E'

theorem look_cons {α : Type} (l : List (Nat × α)) (j : Nat) (x : α) (i : Nat) : look ((j, x) :: l) i = if j = i then some x else look l i := by
  simp only [look]
  by_cases h : j = i
  · subst h; simp
  · have : Nat.beq j i = false := by
      cases e : Nat.beq j i with
      | false => rfl
      | true => exact absurd (Nat.eq_of_beq_eq_true e) h
    rw [this]; simp [h]
theorem look_append {α : Type} (l l' : List (Nat × α)) (i : Nat) : look (l ++ l') i = (look l i).orElse (fun _ => look l' i) := by
  induction l with
  | nil => simp [look]
  | cons x l ih =>
    obtain ⟨j, x⟩ := x
    rw [List.cons_append, look_cons, look_cons, ih]
    by_cases h : j = i <;> simp [h]
theorem look_mem {α : Type} {l : List (Nat × α)} {i : Nat} {x : α} (h : look l i = some x) : (i, x) ∈ l := by
  induction l with
  | nil => simp [look] at h
  | cons z l ih =>
    obtain ⟨j, z⟩ := z
    rw [look_cons] at h
    by_cases e : j = i
    · subst e; simp at h; subst h; simp
    · simp [e] at h; exact List.mem_cons_of_mem _ (ih h)
theorem look_none {α : Type} {l : List (Nat × α)} {i : Nat} (h : i ∉ l.map (·.1)) : look l i = none := by
  induction l with
  | nil => rfl
  | cons z l ih =>
    obtain ⟨j, z⟩ := z
    simp at h
    rw [look_cons, if_neg (fun e => h.1 e.symm)]
    exact ih (by simpa using h.2)
theorem look_some {α : Type} {l : List (Nat × α)} {i : Nat} (h : i ∈ l.map (·.1)) : ∃ x, look l i = some x := by
  induction l with
  | nil => simp at h
  | cons z l ih =>
    obtain ⟨j, z⟩ := z
    rw [look_cons]
    by_cases e : j = i
    · exact ⟨z, by simp [e]⟩
    · simp only [e, if_false]
      simp at h
      rcases h with h | h
      · exact absurd h.symm e
      · exact ih (by simpa using h)

/-- No fact names a slot. -/
def En.shut (E : En) : Prop := (∀ x ∈ E.s, x.2.deps = []) ∧ (∀ x ∈ E.r, x.2.deps = [])
def noDeps : List Nat → Bool
  | [] => true
  | _ => false
def En.shutB (E : En) : Bool := E.s.all (fun x => noDeps x.2.deps) && E.r.all (fun x => noDeps x.2.deps)
theorem noDeps_eq {l : List Nat} (h : noDeps l = true) : l = [] := by cases l <;> simp_all [noDeps]
theorem En.shut_of {E : En} (h : E.shutB = true) : E.shut := by
  simp only [En.shutB, Bool.and_eq_true, List.all_eq_true] at h
  exact ⟨fun x hx => noDeps_eq (h.1 x hx), fun x hx => noDeps_eq (h.2 x hx)⟩
def CD.deps (c : CD) : List Nat := c.q.deps ++ c.qr.flatMap fun x => x.2.deps

/-- One step of a region, whatever has gone before: the facts that are left. -/
theorem step_keeps {c : CD} {a : Act} {d : Option Nat} {w : World} {F : Fp} {v : Value} {w' : World} {F' : Fp} (hd : ∀ i, d = some i → i < a.tmps.size)
    (hwf : Wf F w) (hst : Stp c.W w F w' F') :
    (∀ i (s : SF), (∀ j ∈ s.deps, d ≠ some j) → d ≠ some i → s.holds (Act.tau a) w (U F) (Act.tau a i) → s.holds (Act.tau (a.put d v)) w' (U F') (Act.tau (a.put d v) i)) ∧
    (∀ n (r : RS), (∀ j ∈ r.deps, d ≠ some j) → n ∉ c.W → r.holds (Act.tau a) w (F n) (U F) → r.holds (Act.tau (a.put d v)) w' (F' n) (U F')) := by
  have hev := hst.ev
  rw [Act.tau_put a d v hd]
  refine ⟨fun i s hdep hi h => ?_, fun n r hdep hn h => ?_⟩
  · have e : upd (Act.tau a) d v i = Act.tau a i := by simp [upd, hi]
    rw [e]
    exact SF.mono hev (fun j hj => by simp [upd, hdep j hj]) h
  · rw [hst.fkeep n hn]
    exact RS.mono hev (hst.same hwf hn) (fun j hj => by simp [upd, hdep j hj]) h

section seq
variable {P : Program} {ops : Array Oper} {Q : Exit → Act → World → Prop}

/-- The slots that are written, each once; facts name slots that are written no more. -/
def okSeq : List Oper → List CD → List Nat → Bool
  | [], [], _ => true
  | o :: l, c :: cs, named => (match o.dst with | some d => !named.contains d | none => true) && okSeq l cs (c.deps ++ named)
  | _, _, _ => false

def dstsIn (n : Nat) : List Oper → Bool
  | [] => true
  | o :: l => (match o.dst with | some d => Nat.blt d n | none => true) && dstsIn n l

theorem seq_run {B : Base} : ∀ (l : List Oper) (cs : List CD) (E E' : En) (named : List Nat) (a : Act) (w : World) (F : Fp), Chain P ops E l cs E' →
    okSeq l cs named = true → dstsIn B.n l = true → (∀ x ∈ E.s, ∀ j ∈ x.2.deps, j ∈ named) → (∀ x ∈ E.r, ∀ j ∈ x.2.deps, j ∈ named) → Sat B E a w F →
    (∀ a w F, Sat B E' a w F → Q .normal a w) → wpList P ops Q l a w := by
  intro l
  induction l with
  | nil =>
    intro cs E E' named a w F hc ho hd hs hr hS hQ
    cases hc
    exact wpList_nil (hQ a w F hS)
  | cons o l ih =>
    intro cs E E' named a w F hc ho hd hs hr hS hQ
    cases hc with
    | @cons _ _ c _ cs _ hc hls hlr t =>
      simp only [okSeq, Bool.and_eq_true] at ho
      simp only [dstsIn, Bool.and_eq_true] at hd
      have hdd : ∀ i, o.dst = some i → i < a.tmps.size := by
        intro i hi
        have := hd.1
        rw [hi] at this
        rw [hS.n]
        exact of_decide_eq_true (by simpa [Nat.blt_eq] using this)
      refine wpList_step fun K hK => hc a w F K Q hS.wf (fun x hx => hS.s _ _ (hls.get x hx)) (fun x hx => hS.r _ _ (hlr.get x hx)) ?_
      intro v w' F' hwf' hst hq hqr
      refine hK _ _ ?_
      have hnd : ∀ j, j ∈ named → o.dst ≠ some j := by
        intro j hj e
        have := ho.1
        rw [e] at this
        simp [hj] at this
      have keeps := step_keeps (c := c) (v := v) hdd hS.wf hst
      refine ih cs _ E' (c.deps ++ named) _ _ F' t ho.2 hd.2 ?_ ?_ ⟨hwf', hS.ev.trans hst.ev, by rw [Act.size_put]; exact hS.n, by rw [Act.defers_put]; exact hS.df, ?_, ?_, ?_⟩ hQ
      · intro x hx j hj
        simp only [En.step] at hx
        split at hx
        · rcases List.mem_cons.1 hx with rfl | hx
          · exact List.mem_append_left _ (by simp [CD.deps, hj])
          · exact List.mem_append_right _ (hs x hx j hj)
        · exact List.mem_append_right _ (hs x hx j hj)
      · intro x hx j hj
        simp only [En.step] at hx
        rcases List.mem_append.1 hx with hx | hx
        · refine List.mem_append_left _ ?_
          simp only [CD.deps]
          exact List.mem_append_right _ (List.mem_flatMap.2 ⟨x, hx, hj⟩)
        · exact List.mem_append_right _ (hr x hx j hj)
      · intro i s hl
        have hold : look E.s i = some s → o.dst ≠ some i → s.holds (Act.tau (a.put o.dst v)) w' (U F') (Act.tau (a.put o.dst v) i) := fun hl hi =>
          keeps.1 i s (fun j hj => hnd j (hs _ (look_mem hl) j hj)) hi (hS.s i s hl)
        simp only [En.step] at hl
        cases hdst : o.dst with
        | none => rw [hdst] at hl hold; exact hold hl (by simp)
        | some d =>
          rw [hdst] at hl hold
          simp only [] at hl
          rw [look_cons] at hl
          by_cases e : d = i
          · subst e
            simp at hl
            subst hl
            rw [hdst] at hq hdd
            rw [Act.tau_put a (some d) v hdd]
            have : upd (Act.tau a) (some d) v d = v := by simp [upd]
            rw [this]; exact hq
          · rw [if_neg e] at hl
            exact hold hl (by simpa using e)
      · intro n r hl
        simp only [En.step] at hl
        rw [look_append] at hl
        by_cases hn : n ∈ c.W
        · obtain ⟨x, hx⟩ := look_some (l := c.qr) (i := n) hn
          rw [hx] at hl
          simp at hl
          subst hl
          rw [Act.tau_put a o.dst v hdd]
          exact hqr _ (look_mem hx)
        · rw [look_none (l := c.qr) (i := n) hn] at hl
          simp at hl
          exact keeps.2 n r (fun j hj => hnd j (hr _ (look_mem hl) j hj)) hn (hS.r n r hl)
      · intro n b hb
        simp only [En.step]
        rw [look_append]
        by_cases hn : n ∈ c.W
        · obtain ⟨x, hx⟩ := look_some (l := c.qr) (i := n) hn
          exact ⟨x, by rw [hx]; rfl⟩
        · rw [hst.fkeep n hn] at hb
          obtain ⟨r, hr'⟩ := hS.em n b hb
          rw [look_none (l := c.qr) (i := n) hn]
          exact ⟨r, by simpa using hr'⟩

/-- Facts on values in the place of facts on slots. -/
def En.sub (ρ : Tau) (E : En) : En := ⟨E.s.map fun x => (x.1, x.2.sub ρ), E.r.map fun x => (x.1, x.2.sub ρ)⟩
theorem look_map {α : Type} (f : α → α) (l : List (Nat × α)) (i : Nat) : look (l.map fun x => (x.1, f x.2)) i = (look l i).map f := by
  induction l with
  | nil => rfl
  | cons z l ih =>
    obtain ⟨j, z⟩ := z
    rw [List.map_cons, look_cons, look_cons, ih]
    by_cases e : j = i <;> simp [e]
theorem Sat.sub {B : Base} {E : En} {a : Act} {w : World} {F : Fp} (h : Sat B E a w F) : Sat B (E.sub (Act.tau a)) a w F :=
  ⟨h.wf, h.ev, h.n, h.df, fun i s hl => by
    simp only [En.sub] at hl
    rw [look_map (fun s => SF.sub (Act.tau a) s)] at hl
    cases e : look E.s i with
    | none => rw [e] at hl; simp at hl
    | some s' => rw [e] at hl; simp at hl; subst hl; exact SF.sub_holds (h.s i s' e),
   fun i s hl => by
    simp only [En.sub] at hl
    rw [look_map (fun s => RS.sub (Act.tau a) s)] at hl
    cases e : look E.r i with
    | none => rw [e] at hl; simp at hl
    | some s' => rw [e] at hl; simp at hl; subst hl; exact RS.sub_holds (h.r i s' e),
   fun n b hb => by
    obtain ⟨r, hr⟩ := h.em n b hb
    exact ⟨r.sub (Act.tau a), by simp only [En.sub]; rw [look_map (fun s => RS.sub (Act.tau a) s), hr]; rfl⟩⟩
theorem En.sub_shut (ρ : Tau) (E : En) : (E.sub ρ).shut := by
  refine ⟨fun x hx => ?_, fun x hx => ?_⟩
  · simp only [En.sub, List.mem_map] at hx
    obtain ⟨z, _, rfl⟩ := hx
    exact SF.sub_deps ρ _
  · simp only [En.sub, List.mem_map] at hx
    obtain ⟨z, _, rfl⟩ := hx
    exact RS.sub_deps ρ _

/-- What lives on, of slots and of what is owned. -/
theorem Sat.norm {B : Base} {E : En} {a : Act} {w : World} {F : Fp} (h : Sat B E a w F) (L : List (Nat × SF)) (R : List (Nat × RS)) (hL : Looks E.s L) (hR : Looks E.r R) : ∃ F', Sat B ⟨L, R⟩ a w F' := by
  have hle : ∀ b, U (fun n b => n ∈ R.map (·.1) ∧ F n b) b → U F b := fun b ⟨n, hn⟩ => ⟨n, hn.2⟩
  have hev := Ev.less w hle
  refine ⟨fun n b => n ∈ R.map (·.1) ∧ F n b, ⟨fun n m b hn hm => h.wf.dis n m b hn.2 hm.2, fun n b hn => h.wf.bd n b hn.2⟩, h.ev.trans hev, h.n, h.df, fun i s hl => ?_, fun i s hl => ?_, fun n b hb => ?_⟩
  · exact SF.mono hev (fun _ _ => rfl) (h.s i s (hL.get (i, s) (look_mem hl)))
  · have hm := look_mem hl
    have hi : i ∈ R.map (·.1) := List.mem_map.2 ⟨_, hm, rfl⟩
    have e : (fun b => i ∈ R.map (·.1) ∧ F i b) = F i := by funext b; simp only [hi, true_and]
    show RS.holds (Act.tau a) w (fun b => i ∈ R.map (·.1) ∧ F i b) _ s
    rw [e]
    exact RS.mono hev (fun _ _ => rfl) (fun _ _ => rfl) (h.r i s (hR.get (i, s) hm))
  · exact look_some hb.1

/-- A region whose order is the text's. -/
theorem region_seq {B : Base} {id : Nat} {l : List Oper} {cs : List CD} {E E' : En} {a : Act} {w : World} {F : Fp} (hS : Sat B E a w F) (hE : E.shutB = true)
    (hc : Chain P l.toArray E l cs E') (ho : okSeq l cs [] = true) (hd : dstsIn B.n l = true)
    (hQ : ∀ a w F, Sat B E' a w F → Q .normal a w) : (Code.region id l.toArray false).wp P Q a w :=
  wp_region_list (by
    rw [List.toList_toArray]
    exact seq_run l cs E E' [] a w F hc ho hd (fun x hx j hj => by rw [(En.shut_of hE).1 x hx] at hj; cases hj) (fun x hx j hj => by rw [(En.shut_of hE).2 x hx] at hj; cases hj) hS hQ)
end seq
end Go.Gm
