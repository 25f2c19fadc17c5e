/- What each operation does, told by facts on slots. No condition. -/
import Derived.Test.YtfldilhddeabeaaDoorLibB
namespace Go.Gm
set_option linter.unusedVariables false
set_option linter.unusedSimpArgs false

section
variable {P : Program}

/-- Of an operand. -/
def Opd (x : Operand) (ps : List (Nat × SF)) (s : SF) : Prop := ∀ (a : Act) w y, Hps ps (Act.tau a) w y → s.holds (Act.tau a) w y (a.eval x)
theorem Opd.t {i : Nat} {s : SF} : Opd (.tmp i) [(i, s)] s := fun a w y h => h (i, s) (by simp)
theorem Opd.c {v : Value} (h : v.oneCell' = true) : Opd (.const v) [] (.pv (.is v)) := fun a w y _ => ⟨rfl, h⟩
theorem Opd.ci {k : IntKind} {n : Int} (h : (decide (k.min ≤ n) && decide (n ≤ k.max)) = true) : Opd (.const (.int k n)) [] (.pv (.int k n)) := fun a w y _ => ⟨rfl, by simpa [inR] using h⟩
theorem Opd.cb {b : Bool} : Opd (.const (.bool b)) [] (.pv (.bool b)) := fun a w y _ => rfl
theorem Opd.cs {s : ByteArray} (h : Nat.ble s.size maxLen = true) : Opd (.const (.string s)) [] (.pv (.str s)) := fun a w y _ => ⟨rfl, by simpa using h⟩
theorem Opd.f {f : FuncId} : Opd (.func f) [] (.pv (.is (.func (.func f) #[] #[]))) := fun a w y _ => ⟨rfl, rfl⟩
theorem Opd.w {c : Prop} {i : Nat} {s : SF} (hc : c) : Opd (.tmp i) [(i, .when c s)] s := fun a w y h => (h (i, .when c s) (by simp)).1 hc
theorem Opd.wc {c d : Prop} {i : Nat} {s : SF} (hc : c) : Opd (.tmp i) [(i, .when (c ∧ d) s)] (.when d s) := fun a w y h =>
  have k := h (i, .when (c ∧ d) s) (by simp)
  ⟨fun hd => k.1 ⟨hc, hd⟩, fun hd => k.2 fun h => hd h.2⟩
/-- One fact for another. -/
def Ent (s s' : SF) : Prop := ∀ τ w y v, s.holds τ w y v → s'.holds τ w y v
theorem Opd.conv {x ps s s'} (h : Opd x ps s) (e : Ent s s') : Opd x ps s' := fun a w y hp => e _ _ _ _ (h a w y hp)

theorem Hps.left {ps qs : List (Nat × SF)} {τ w y} (h : Hps (ps ++ qs) τ w y) : Hps ps τ w y := fun x hx => h x (List.mem_append_left _ hx)
theorem Hps.right {ps qs : List (Nat × SF)} {τ w y} (h : Hps (ps ++ qs) τ w y) : Hps qs τ w y := fun x hx => h x (List.mem_append_right _ hx)

theorem Cert.free {ops : Array Oper} {o : Oper} {c : CD} (hg : o.guard = none) (h : OpC P o c) : Cert P ops o c := fun a w F K Q hw hs hr ht => by
  have : Region.wanted o (yielded ops a.tmps) = true := by simp [Region.wanted, hg]
  rw [if_pos this]; exact h a w F K Q hw hs hr ht

theorem yielded_bool {ops : Array Oper} {j sj : Nat} {a : Act} {β : Bool} (hj : (ops[j]?).bind (·.dst) = some sj) (h : Act.tau a sj = .bool β) : yielded ops a.tmps j = some β := by
  simp only [yielded, hj, Option.bind_some]
  simp only [Act.tau, Array.getD_eq_getD_getElem?] at h
  cases e : a.tmps[sj]? with
  | none => rw [e] at h; simp [undef] at h
  | some v => rw [e] at h; simp at h; subst h; rfl

theorem Cert.run {ops : Array Oper} {o : Oper} {c : CD} {j sj : Nat} {want β : Bool} (hg : o.guard = some (j, want)) (hj : (ops[j]?).bind (·.dst) = some sj) (hβ : β = want)
    (h : OpC P o c) : Cert P ops o ⟨(sj, .pv (.bool β)) :: c.ps, c.pr, c.q, c.qr⟩ := fun a w F K Q hw hs hr ht => by
  have hb : Act.tau a sj = .bool β := hs (sj, .pv (.bool β)) (by simp)
  have : Region.wanted o (yielded ops a.tmps) = true := by simp [Region.wanted, hg, yielded_bool hj hb, hβ]
  rw [if_pos this]
  exact h a w F K Q hw (fun x hx => hs x (by simp [hx])) hr ht

theorem Cert.skip {ops : Array Oper} {o : Oper} {j sj : Nat} {want β : Bool} (hg : o.guard = some (j, want)) (hj : (ops[j]?).bind (·.dst) = some sj) (hβ : β = !want) :
    Cert P ops o ⟨[(sj, .pv (.bool β))], [], .pv .any, []⟩ := fun a w F K Q hw hs hr ht => by
  have hb : Act.tau a sj = .bool β := hs (sj, .pv (.bool β)) (by simp)
  have : Region.wanted o (yielded ops a.tmps) = false := by simp [Region.wanted, hg, yielded_bool hj hb, hβ]
  rw [this]
  exact ht _ w F hw (Stp.refl w F) trivial (fun x hx => by cases hx)

theorem Cert.cond {ops : Array Oper} {o : Oper} {ps : List (Nat × SF)} {pr : List (Nat × RS)} {q : SF} {j sj : Nat} {want β : Bool} (hg : o.guard = some (j, want))
    (hj : (ops[j]?).bind (·.dst) = some sj) (h : β = want → OpC P o ⟨ps, pr, q, []⟩) : Cert P ops o ⟨(sj, .pv (.bool β)) :: ps, pr, .when (β = want) q, []⟩ := fun a w F K Q hw hs hr ht => by
  have hb : Act.tau a sj = .bool β := hs (sj, .pv (.bool β)) (by simp)
  by_cases hβ : β = want
  · have : Region.wanted o (yielded ops a.tmps) = true := by simp [Region.wanted, hg, yielded_bool hj hb, hβ]
    rw [if_pos this]
    exact h hβ a w F K Q hw (fun x hx => hs x (by simp [hx])) hr (fun v w' F' h1 h2 h3 h4 => ht v w' F' h1 h2 ⟨fun _ => h3, fun h => absurd hβ h⟩ h4)
  · have : Region.wanted o (yielded ops a.tmps) = false := by
      simp [Region.wanted, hg, yielded_bool hj hb, hβ]
    rw [this]
    exact ht _ w F hw (Stp.refl w F) ⟨fun h => absurd h hβ, fun _ => rfl⟩ (fun x hx => by cases hx)

/-- .. where the guard's own slot is written under a condition. -/
theorem Cert.cond2 {ops : Array Oper} {o : Oper} {ps : List (Nat × SF)} {pr : List (Nat × RS)} {q : SF} {j sj : Nat} {want γ : Bool} {c : Prop} (hg : o.guard = some (j, want))
    (hj : (ops[j]?).bind (·.dst) = some sj) (h : c ∧ γ = want → OpC P o ⟨ps, pr, q, []⟩) : Cert P ops o ⟨(sj, .when c (.pv (.bool γ))) :: ps, pr, .when (c ∧ γ = want) q, []⟩ := fun a w F K Q hw hs hr ht => by
  have hb := hs (sj, .when c (.pv (.bool γ))) (by simp)
  by_cases hβ : c ∧ γ = want
  · have hv : Act.tau a sj = .bool γ := hb.1 hβ.1
    have : Region.wanted o (yielded ops a.tmps) = true := by simp [Region.wanted, hg, yielded_bool hj hv, hβ.2]
    rw [if_pos this]
    exact h hβ a w F K Q hw (fun x hx => hs x (by simp [hx])) hr (fun v w' F' h1 h2 h3 h4 => ht v w' F' h1 h2 ⟨fun _ => h3, fun h => absurd hβ h⟩ h4)
  · have : Region.wanted o (yielded ops a.tmps) = false := by
      by_cases hc : c
      · have hv : Act.tau a sj = .bool γ := hb.1 hc
        have hne : γ ≠ want := fun e => hβ ⟨hc, e⟩
        simp [Region.wanted, hg, yielded_bool hj hv, hne]
      · have hu : Act.tau a sj = undef := hb.2 hc
        have : yielded ops a.tmps j = none := by
          simp only [yielded, hj, Option.bind_some]
          simp only [Act.tau, Array.getD_eq_getD_getElem?] at hu
          cases e : a.tmps[sj]? with
          | none => rfl
          | some v => rw [e] at hu; simp at hu; subst hu; rfl
        simp [Region.wanted, hg, this]
    rw [this]
    exact ht _ w F hw (Stp.refl w F) ⟨fun h => absurd h hβ, fun _ => rfl⟩ (fun x hx => by cases hx)

/-- An operation that only reckons. -/
theorem OpC.pure {o : Oper} {ps : List (Nat × SF)} {q : SF}
    (h : ∀ (a : Act) w y, Hps ps (Act.tau a) w y → ∃ v, (execOp a.eval o).run P w = .ok (.value v) w ∧ (∀ τ', (∀ i, o.dst ≠ some i → τ' i = Act.tau a i) → q.holds τ' w y v)) :
    OpC P o ⟨ps, [], q, []⟩ := fun a w F K Q hw hs hr ht => by
  obtain ⟨v, hrun, hq⟩ := h a w (U F) hs
  simp only [Oper.wp, hrun, Oper.upon]
  exact ht v w F hw (Stp.refl w F) (hq _ (fun i hi => by simp [upd, hi])) (fun x hx => by cases hx)

/-- .. one that reads what is owned. -/
theorem OpC.read {o : Oper} {ps : List (Nat × SF)} {pr : List (Nat × RS)} {q : SF}
    (h : ∀ (a : Act) w F, Hps ps (Act.tau a) w (U F) → Hpr pr (Act.tau a) w F → ∃ v, (execOp a.eval o).run P w = .ok (.value v) w ∧ (∀ τ', (∀ i, o.dst ≠ some i → τ' i = Act.tau a i) → q.holds τ' w (U F) v)) :
    OpC P o ⟨ps, pr, q, []⟩ := fun a w F K Q hw hs hr ht => by
  obtain ⟨v, hrun, hq⟩ := h a w F hs hr
  simp only [Oper.wp, hrun, Oper.upon]
  exact ht v w F hw (Stp.refl w F) (hq _ (fun i hi => by simp [upd, hi])) (fun x hx => by cases hx)

def depOk (d : Option Nat) (s : SF) : Bool := match d with | some d => !s.deps.contains d | none => true
theorem depOk_mono {d : Option Nat} {s : SF} (h : depOk d s = true) {τ τ' : Tau} {w y v} (ht : ∀ i, d ≠ some i → τ' i = τ i) (k : s.holds τ w y v) : s.holds τ' w y v :=
  SF.mono (Ev.refl w y) (fun i hi => ht i (fun e => by rw [e] at h; simp [depOk, hi] at h)) k

section
variable {d : Option Nat} {ty : TypeId} {pos : String} {af : Array Edge} {g : Option (Nat × Bool)}

theorem o_move {x : Operand} {ps : List (Nat × SF)} {s : SF} (h : Opd x ps s) (hd : depOk d s = true) : OpC P ⟨d, .move x, ty, pos, af, g⟩ ⟨ps, [], s, []⟩ :=
  OpC.pure fun a w y hp => ⟨a.eval x, rfl, fun τ' ht => depOk_mono hd ht (h a w y hp)⟩
theorem o_assign {x : Operand} {ps : List (Nat × SF)} {s : SF} (h : Opd x ps s) (hd : depOk d s = true) : OpC P ⟨d, .assign x, ty, pos, af, g⟩ ⟨ps, [], s, []⟩ :=
  OpC.pure fun a w y hp => ⟨a.eval x, rfl, fun τ' ht => depOk_mono hd ht (h a w y hp)⟩
end
end

end Go.Gm
