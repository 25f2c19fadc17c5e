/- Walks: objects that are lent. No condition. -/
import Derived.Test.YtdfpljecogijaaaLibX
import Derived.Test.YtdfpljecogijaaaLibY
import Derived.Test.YtdfpljecogijaaaLibP

namespace Go.Gm
set_option linter.unusedVariables false
set_option linter.unusedSimpArgs false
def Free (s : SF) : Prop := ∀ τ w y y' v, s.holds τ w y v → s.holds τ w y' v
def Frees (h : HP) : List (Nat × RS) → Prop
  | [] => True
  | x :: l => (∀ τ w f0 y w' f y1 y', h.p w f0 y → Ev w y w' y' → x.2.holds τ w' f y1 → x.2.holds τ w' f y') ∧ Frees h l
theorem Frees.get {h : HP} : ∀ {l : List (Nat × RS)}, Frees h l → ∀ x ∈ l, ∀ τ w f0 y w' f y1 y', h.p w f0 y → Ev w y w' y' → x.2.holds τ w' f y1 → x.2.holds τ w' f y'
  | [], _, x, hx => by cases hx
  | z :: l, h, x, hx => by
    rcases List.mem_cons.1 hx with rfl | hx
    · exact h.1
    · exact h.2.get x hx
theorem Free.pv {p : PV} (h : ∀ v w y y', p.p v w y → p.p v w y') : Free (.pv p) := fun _ w y y' v => h v w y y'
section
variable {P : Program} {d : Option Nat} {ty : TypeId} {pos : String} {af : Array Edge} {g : Option (Nat × Bool)}
/-- Two objects. -/
theorem o_callG2 {f : FuncId} {args : Array Operand} {tys : Array TypeId} {d' : Nat} {ps : List (Nat × SF)} {avs : List PV} {h1 h2 : HP} {k1 k2 : Value → HP} {q : PV} {fn : Func} (n1 n2 : Nat)
    (hc : FnG P f 2 avs [h1, h2] q (fun v => [k1 v, k2 v])) (hf : P.funcs[f]? = some fn) (hb : fn.body.isSome = true) (hn : (fn.name == "runtime.NumGoroutine") = false) (hne : Nat.beq n1 n2 = false)
    (ha : ∀ (a : Act) w y, Hps ps (Act.tau a) w y → ∃ vs : List Value, args.map a.eval = vs.toArray ∧ PVt avs vs w y) :
    OpC P ⟨some d', .call { callee := .value (.func f), args := args, argTypes := tys }, ty, pos, af, g⟩ ⟨ps, [(n1, RS.hp h1), (n2, RS.hp h2)], .pv q, [(n1, .ob (.slot d') k1), (n2, .ob (.slot d') k2)]⟩ :=
  o_callG (is := [n1, n2]) hc hf hb hn ha rfl (by have : n1 ≠ n2 := fun e => by subst e; simp at hne
                                                  simp [this]) (fun τ w F hr i x hi => by
      match i, hi with
      | 0, hi => simp at hi; subst hi; exact ⟨n1, rfl, hr (n1, RS.hp h1) (by simp)⟩
      | 1, hi => simp at hi; subst hi; exact ⟨n2, rfl, hr (n2, RS.hp h2) (by simp)⟩)
    (fun _ _ _ _ h => h) (fun x hx => by
      simp only [List.mem_cons, List.not_mem_nil, or_false] at hx
      rcases hx with rfl | rfl
      · exact ⟨0, rfl, fun v τ w f y ⟨k, hk, hp⟩ => by simp at hk; subst hk; simpa [RS.holds, Anc.v, upd] using hp⟩
      · exact ⟨1, rfl, fun v τ w f y ⟨k, hk, hp⟩ => by simp at hk; subst hk; simpa [RS.holds, Anc.v, upd] using hp⟩) rfl (fun _ => rfl)
end
/-- Some facts of a list. -/
def sel {α : Type} (l : List (Nat × α)) : List Nat → List (Nat × α)
  | [] => []
  | k :: ks => match look l k with
    | some x => (k, x) :: sel l ks
    | none => sel l ks
/-- A loop: what changes is told for each round; the rest is as it was ahead of it. -/
theorem loop_keep {P : Program} {Q : Exit → Act → World → Prop} {B : Base} {c : Code} {σ : Type} (ks rs : List Nat) (cs : σ → List (Nat × SF)) (cr : σ → List (Nat × RS)) (C : σ → Prop) (μ : σ → Nat) {E : En} {a : Act} {w : World} {F : Fp} (s0 : σ)
    (hS : Sat B E a w F) (hl : Looks E.s (cs s0 ++ sel E.s ks)) (hr : Looks E.r (cr s0 ++ sel E.r rs)) (c0 : C s0)
    (round : ∀ s a w F, C s → Sat B ⟨cs s ++ sel E.s ks, cr s ++ sel E.r rs⟩ a w F → c.wp P (Exit.then (fun a' w' => ∃ s' F', C s' ∧ Sat B ⟨cs s' ++ sel E.s ks, cr s' ++ sel E.r rs⟩ a' w' F' ∧ μ s' < μ s) Q) a w) : (Code.loop c).wp P Q a w := by
  obtain ⟨F', h0⟩ := hS.norm _ _ hl hr
  exact loop_inv (fun s => ⟨cs s ++ sel E.s ks, cr s ++ sel E.r rs⟩) C μ s0 h0 c0 round
section
variable {P : Program} {d : Option Nat} {ty : TypeId} {pos : String} {af : Array Edge} {g : Option (Nat × Bool)}
theorem PVt.get {w : World} {yy : Ys} : ∀ {l : List PV} {vs : List Value} {i : Nat} {p : PV}, PVt l vs w yy → l[i]? = some p → ∃ v, vs[i]? = some v ∧ p.p v w yy
  | [], _, _, _, _, h => by simp at h
  | q :: l, v :: vs, 0, p, h, hi => by simp at hi; subst hi; exact ⟨v, rfl, h.1⟩
  | q :: l, v :: vs, i + 1, p, h, hi => by
    obtain ⟨u, h1, h2⟩ := PVt.get h.2 (i := i) (by simpa using hi)
    exact ⟨u, by simpa using h1, h2⟩
  | q :: l, [], _, _, h, _ => h.elim
theorem Ent.part {v V : Value} {k : Nat} (h : shift k v = V) (h1 : V.oneCell' = true) : Ent (.adr (.val v) k) (.pv (.is V)) := fun τ w y u hu => by
  have e : u = shift k v := hu
  exact ⟨e.trans h, by rw [e.trans h]; exact h1⟩
end
section
variable {B : Base} {E : En} {a : Act} {w : World} {F : Fp}
/-- Another number for what is owned. -/
theorem Sat.rename {r : RS} (h : Sat B E a w F) (n m : Nat) (hn : look E.r n = some r) (hm : look E.r m = none) : ∃ F', Sat B ⟨E.s, (m, r) :: (n, RS.hp (HP.star [])) :: E.r⟩ a w F' := by
  have hne : n ≠ m := fun e => by subst e; rw [hn] at hm; cases hm
  have hF : ∀ b, ¬ F m b := fun b hb => by obtain ⟨r, hr⟩ := h.em m b hb; rw [hm] at hr; cases hr
  refine ⟨fun k => if k = m then F n else if k = n then fun _ => False else F k, h.repart _ (fun b => ⟨?_, ?_⟩) (fun i j b hi hj => ?_) (fun k r' hk => ?_) (fun k b hb => ?_)⟩
  · rintro ⟨k, hk⟩
    by_cases e1 : k = m
    · simp only [e1, if_true] at hk; exact ⟨n, hk⟩
    · by_cases e2 : k = n
      · simp only [e1, e2, if_false, if_true] at hk
        split at hk
        · exact ⟨n, hk⟩
        · exact hk.elim
      · simp only [e1, e2, if_false] at hk; exact ⟨k, hk⟩
  · rintro ⟨k, hk⟩
    by_cases e2 : k = n
    · subst e2; exact ⟨m, by simp only [if_true]; exact hk⟩
    · by_cases e1 : k = m
      · subst e1; exact absurd hk (hF b)
      · exact ⟨k, by simp only [e1, e2, if_false]; exact hk⟩
  · by_cases i1 : i = m <;> by_cases j1 : j = m
    · rw [i1, j1]
    · by_cases j2 : j = n
      · simp only [j2, hne, if_false, if_true] at hj
      · simp only [i1, j1, j2, if_false, if_true] at hi hj
        exact absurd (h.wf.dis _ _ b hi hj).symm j2
    · by_cases i2 : i = n
      · simp only [i2, hne, if_false, if_true] at hi
      · simp only [i1, j1, i2, if_false, if_true] at hi hj
        exact absurd (h.wf.dis _ _ b hi hj) i2
    · by_cases i2 : i = n
      · simp only [i2, hne, if_false, if_true] at hi
      · by_cases j2 : j = n
        · simp only [j2, hne, if_false, if_true] at hj
        · simp only [i1, j1, i2, j2, if_false] at hi hj
          exact h.wf.dis _ _ b hi hj
  · rw [look_cons] at hk
    split at hk
    · rename_i e
      simp only [Option.some.injEq] at hk; subst hk; subst e
      simp only [if_true]
      exact h.r n _ hn
    · rename_i e
      rw [look_cons] at hk
      split at hk
      · rename_i e2
        simp only [Option.some.injEq] at hk; subst hk; subst e2
        simp only [hne, if_false, if_true]
        exact fun b hb => hb
      · rename_i e2
        have : (if k = m then F n else if k = n then fun _ => False else F k) = F k := by rw [if_neg (fun h => e h.symm), if_neg (fun h => e2 h.symm)]
        rw [this]
        exact h.r k r' hk
  · rw [look_cons, look_cons]
    by_cases e1 : m = k
    · exact ⟨r, by rw [if_pos e1]⟩
    · by_cases e2 : n = k
      · exact ⟨_, by rw [if_neg e1, if_pos e2]⟩
      · rw [if_neg e1, if_neg e2]
        have e3 : (if k = m then F n else if k = n then fun _ => False else F k) = F k := by rw [if_neg (fun h => e1 h.symm), if_neg (fun h => e2 h.symm)]
        rw [e3] at hb
        exact h.em k b hb
end
section
variable {P : Program} {ty : TypeId} {pos : String} {af : Array Edge} {g : Option (Nat × Bool)}
/-- A new object, where something is handed over for it. -/
theorem o_callNg {f : FuncId} {args : Array Operand} {tys : Array TypeId} {d' : Nat} {ps : List (Nat × SF)} {avs : List PV} {h : HP} {h' : Value → HP} {q : PV} {fn : Func} (n : Nat)
    (hc : FnG P f 1 avs [h] q (fun v => [h' v])) (hf : P.funcs[f]? = some fn) (hb : fn.body.isSome = true) (hn : (fn.name == "runtime.NumGoroutine") = false)
    (ha : ∀ (a : Act) w y, Hps ps (Act.tau a) w y → ∃ vs : List Value, args.map a.eval = vs.toArray ∧ PVt avs vs w y) (h1 : ∀ v w y, q.p v w y → v.oneCell' = true) :
    OpC P ⟨some d', .call { callee := .value (.func f), args := args, argTypes := tys }, ty, pos, af, g⟩ ⟨ps, [(n, RS.hp h)], .same d', [(n, RS.ob (.slot d') h')]⟩ :=
  o_callG (is := [n]) hc hf hb hn ha rfl (by simp) (fun τ w F hr i x hi => by
      match i, hi with
      | 0, hi => simp at hi; subst hi; exact ⟨n, rfl, hr (n, RS.hp h) (by simp)⟩)
    (fun _ _ _ _ h => ⟨by simp [upd], h1 _ _ _ h⟩) (fun x hx => by
      simp only [List.mem_singleton] at hx
      subst hx
      exact ⟨0, rfl, fun v τ w f y ⟨k, hk, hp⟩ => by
        simp at hk; subst hk
        simpa [RS.holds, Anc.v, upd] using hp⟩) rfl (fun _ => rfl)
end
theorem Tells.four {s1 s2 s3 s4 : SF} {q1 q2 q3 q4 : PV} (h1 : Ent s1 (.pv q1)) (h2 : Ent s2 (.pv q2)) (h3 : Ent s3 (.pv q3)) (h4 : Ent s4 (.pv q4)) : Tells [s1, s2, s3, s4] (.tup [q1, q2, q3, q4]) := fun τ w y vs hs => by
  match vs, hs with
  | [u, v, x, z], hs => exact ⟨[u, v, x, z], rfl, h1 τ w y u hs.1, h2 τ w y v hs.2.1, h3 τ w y x hs.2.2.1, h4 τ w y z hs.2.2.2.1, trivial⟩
section
variable {P : Program} {ty : TypeId} {pos : String} {af : Array Edge} {g : Option (Nat × Bool)}
/-- An object that is read, and a new one. -/
theorem o_callG2N {f : FuncId} {args : Array Operand} {tys : Array TypeId} {d' : Nat} {ps : List (Nat × SF)} {avs : List PV} {h1 h2 k1 : HP} {k2 : Value → HP} {q : PV} {fn : Func} (n1 n2 : Nat)
    (hc : FnG P f 2 avs [h1, h2] q (fun v => [k1, k2 v])) (hf : P.funcs[f]? = some fn) (hb : fn.body.isSome = true) (hn : (fn.name == "runtime.NumGoroutine") = false) (hne : Nat.beq n1 n2 = false)
    (ha : ∀ (a : Act) w y, Hps ps (Act.tau a) w y → ∃ vs : List Value, args.map a.eval = vs.toArray ∧ PVt avs vs w y) (hone : ∀ v w y, q.p v w y → v.oneCell' = true) :
    OpC P ⟨some d', .call { callee := .value (.func f), args := args, argTypes := tys }, ty, pos, af, g⟩ ⟨ps, [(n1, RS.hp h1), (n2, RS.hp h2)], .same d', [(n1, RS.hp k1), (n2, .ob (.slot d') k2)]⟩ :=
  o_callG (is := [n1, n2]) hc hf hb hn ha rfl (by have : n1 ≠ n2 := fun e => by subst e; simp at hne
                                                  simp [this]) (fun τ w F hr i x hi => by
      match i, hi with
      | 0, hi => simp at hi; subst hi; exact ⟨n1, rfl, hr (n1, RS.hp h1) (by simp)⟩
      | 1, hi => simp at hi; subst hi; exact ⟨n2, rfl, hr (n2, RS.hp h2) (by simp)⟩)
    (fun _ _ _ _ h => ⟨by simp [upd], hone _ _ _ h⟩) (fun x hx => by
      simp only [List.mem_cons, List.not_mem_nil, or_false] at hx
      rcases hx with rfl | rfl
      · exact ⟨0, rfl, fun v τ w f y ⟨k, hk, hp⟩ => by simp at hk; subst hk; exact hp⟩
      · exact ⟨1, rfl, fun v τ w f y ⟨k, hk, hp⟩ => by simp at hk; subst hk; simpa [RS.holds, Anc.v, upd] using hp⟩) rfl (fun _ => rfl)
end
end Go.Gm

namespace Go.Gm
set_option linter.unusedVariables false
set_option linter.unusedSimpArgs false

def PV.nm (v : Value) : PV := ⟨fun u _ _ => u = v, fun _ h => h⟩
def OpdF (j : Nat) (x : Operand) (ps : List (Nat × SF)) (p : Value → PV) : Prop := ∀ (a : Act) w y, Hps ps (Act.tau a) w y → (p (Act.tau a j)).p (a.eval x) w y
theorem OpdF.same {j : Nat} : OpdF j (.tmp j) [(j, .same j)] (fun v => .is v) := fun a w y h => by
  have := h (j, .same j) (by simp)
  exact ⟨rfl, this.2⟩
theorem OpdF.of {j : Nat} {x : Operand} {ps : List (Nat × SF)} {p : PV} (h : Opd x ps (.pv p)) : OpdF j x ps (fun _ => p) := fun a w y hp => h a w y hp
theorem OpdF.fn {j i : Nat} {p : Value → PV} : OpdF j (.tmp i) [(i, .fn j p)] p := fun a w y h => h (i, .fn j p) (by simp)
theorem OpdF.conv {j : Nat} {x : Operand} {ps : List (Nat × SF)} {p p' : Value → PV} (h : OpdF j x ps p) (e : ∀ u v w y, (p u).p v w y → (p' u).p v w y) : OpdF j x ps p' := fun a w y hp => e _ _ _ _ (h a w y hp)
def ArgsF (j : Nat) (args : Array Operand) (ps : List (Nat × SF)) (avs : Value → List PV) : Prop := ∀ (a : Act) w y, Hps ps (Act.tau a) w y → ∃ vs : List Value, args.map a.eval = vs.toArray ∧ PVt (avs (Act.tau a j)) vs w y
theorem ArgsF.one {j : Nat} {x : Operand} {ps : List (Nat × SF)} {p : Value → PV} (h : OpdF j x ps p) : ArgsF j #[x] ps (fun v => [p v]) := fun a w y hp => ⟨[a.eval x], by simp, h a w y hp, trivial⟩
theorem ArgsF.two {j : Nat} {x1 x2 : Operand} {ps1 ps2 : List (Nat × SF)} {p1 p2 : Value → PV} (h1 : OpdF j x1 ps1 p1) (h2 : OpdF j x2 ps2 p2) : ArgsF j #[x1, x2] (ps1 ++ ps2) (fun v => [p1 v, p2 v]) :=
  fun a w y hp => ⟨[a.eval x1, a.eval x2], by simp, h1 a w y hp.left, h2 a w y hp.right, trivial⟩
theorem ArgsF.three {j : Nat} {x1 x2 x3 : Operand} {ps1 ps2 ps3 : List (Nat × SF)} {p1 p2 p3 : Value → PV} (h1 : OpdF j x1 ps1 p1) (h2 : OpdF j x2 ps2 p2) (h3 : OpdF j x3 ps3 p3) : ArgsF j #[x1, x2, x3] (ps1 ++ (ps2 ++ ps3)) (fun v => [p1 v, p2 v, p3 v]) :=
  fun a w y hp => ⟨[a.eval x1, a.eval x2, a.eval x3], by simp, h1 a w y hp.left, h2 a w y hp.right.left, h3 a w y hp.right.right, trivial⟩
/-- A contract for a handle of whatever name. -/
def HP.named {β : Type} (g : β → Value) (h : β → HP) (v : Value) : HP := HP.ex fun b => HP.and (v = g b) (h b)
theorem FnG.named2 {β : Type} {g : β → Value} {P : Program} {f : FuncId} {avs : Value → List PV} {h1 k1 : HP} {h2 k2 : β → HP} {q : Value → PV} (hc : ∀ b, FnG P f 2 (avs (g b)) [h1, h2 b] (q (g b)) (fun _ => [k1, k2 b])) (v : Value) :
    FnG P f 2 (avs v) [h1, HP.named g h2 v] (q v) (fun _ => [k1, HP.named g k2 v]) := fun w F vs hw hle hvs hpr => by
  obtain ⟨b, rfl, hb⟩ := hpr 1 _ rfl
  refine (hc b w F vs hw hle hvs fun i h hi => ?_).mono ?_
  · match i, hi with
    | 0, hi => exact hpr 0 _ hi
    | 1, hi => simp at hi; subst hi; exact hb
  · rintro e' w' ⟨v, F', h1, h2, h3, h4, h5, h6⟩
    refine ⟨v, F', h1, h2, h3, h4, h5, fun i h hi => ?_⟩
    match i, hi with
    | 0, hi => exact h6 0 _ hi
    | 1, hi => simp at hi; subst hi; exact ⟨b, rfl, h6 1 _ rfl⟩
/-- A new object, told as one of whatever name. -/
theorem FnG.newNamed {β : Type} {g : β → Value} {P : Program} {f : FuncId} {avs : List PV} {h0 : HP} {h : Value → HP} {h2 : β → HP} {q : PV} (hc : FnG P f 1 avs [h0] q (fun v => [h v])) (hp : ∀ v w f y, (h v).p w f y → ∃ b, v = g b ∧ (h2 b).p w f y) :
    FnG P f 1 avs [h0] q (fun v => [HP.named g h2 v]) := fun w F vs hw hle hvs hpr => by
  refine (hc w F vs hw hle hvs hpr).mono ?_
  rintro e' w' ⟨v, F', h1, h2, h3, h4, h5, h6⟩
  refine ⟨v, F', h1, h2, h3, h4, h5, fun i h hi => ?_⟩
  match i, hi with
  | 0, hi =>
    simp at hi; subst hi
    obtain ⟨b, e, k⟩ := hp _ _ _ _ (h6 0 _ rfl)
    exact ⟨b, e, k⟩
section
variable {P : Program} {d : Option Nat} {ty : TypeId} {pos : String} {af : Array Edge} {g : Option (Nat × Bool)}
/-- Two objects, the second one's handle is what slot j holds. -/
theorem o_callF2 {f : FuncId} {args : Array Operand} {tys : Array TypeId} {d' : Nat} {ps : List (Nat × SF)} {avs : Value → List PV} {h1 k1 : HP} {h2 k2 : Value → HP} {q : Value → PV} {fn : Func} (j n1 n2 : Nat)
    (hc : ∀ v, FnG P f 2 (avs v) [h1, h2 v] (q v) (fun _ => [k1, k2 v])) (hf : P.funcs[f]? = some fn) (hb : fn.body.isSome = true) (hn : (fn.name == "runtime.NumGoroutine") = false) (hne : Nat.beq n1 n2 = false) (hj : Nat.beq j d' = false)
    (ha : ArgsF j args ps avs) :
    OpC P ⟨some d', .call { callee := .value (.func f), args := args, argTypes := tys }, ty, pos, af, g⟩ ⟨ps, [(n1, RS.hp h1), (n2, .ob (.slot j) h2)], .fn j q, [(n1, RS.hp k1), (n2, .ob (.slot j) k2)]⟩ := fun a w F K Q hw hp hr ht => by
  have hjd : ∀ v, upd (Act.tau a) (some d') v j = Act.tau a j := fun v => by
    have : d' ≠ j := fun e => by subst e; simp at hj
    simp [upd, this]
  have hx := o_callG (P := P) (ty := ty) (pos := pos) (af := af) (g := g) (tys := tys) (d' := d') (ps := (j, .pv (PV.nm (Act.tau a j))) :: ps) (is := [n1, n2]) (prs := [(n1, RS.hp h1), (n2, RS.hp (h2 (Act.tau a j)))]) (s := .pv (q (Act.tau a j))) (qrs := [(n1, RS.hp k1), (n2, RS.hp (k2 (Act.tau a j)))]) (hc (Act.tau a j)) hf hb hn
    (args := args) (fun a' w y hp' => by
      have e : Act.tau a' j = Act.tau a j := hp' (j, .pv (PV.nm (Act.tau a j))) (by simp)
      obtain ⟨vs, h1, h2⟩ := ha a' w y (fun x hx => hp' x (by simp [hx]))
      exact ⟨vs, h1, by rw [← e]; exact h2⟩) rfl (by have : n1 ≠ n2 := fun e => by subst e; simp at hne
                                                     simp [this]) (fun τ w F hr i x hi => by
      match i, hi with
      | 0, hi => simp at hi; subst hi; exact ⟨n1, rfl, hr (n1, RS.hp h1) (by simp)⟩
      | 1, hi => simp at hi; subst hi; exact ⟨n2, rfl, hr (n2, RS.hp (h2 (Act.tau a j))) (by simp)⟩)
    (fun _ _ _ _ h => h) (fun x hx => by
      simp only [List.mem_cons, List.not_mem_nil, or_false] at hx
      rcases hx with rfl | rfl
      · exact ⟨0, rfl, fun v τ w f y ⟨k, hk, hp⟩ => by simp at hk; subst hk; exact hp⟩
      · exact ⟨1, rfl, fun v τ w f y ⟨k, hk, hp⟩ => by simp at hk; subst hk; exact hp⟩) rfl (fun _ => rfl)
  refine hx a w F K Q hw (fun x hx => ?_) (fun x hx => ?_) ?_
  · rcases List.mem_cons.1 hx with rfl | hx
    · rfl
    · exact hp x hx
  · simp only [List.mem_cons, List.not_mem_nil, or_false] at hx
    rcases hx with rfl | rfl
    · exact hr (n1, RS.hp h1) (by simp)
    · exact hr (n2, .ob (.slot j) h2) (by simp)
  · intro v w' F' hwf hst hq hqr
    refine ht v w' F' hwf hst ?_ (fun x hx => ?_)
    · show (q (upd (Act.tau a) (some d') v j)).p v w' (U F')
      rw [hjd]; exact hq
    · simp only [List.mem_cons, List.not_mem_nil, or_false] at hx
      rcases hx with rfl | rfl
      · exact hqr (n1, RS.hp k1) (by simp)
      · show (k2 (upd (Act.tau a) (some d') v j)).p w' (F' n2) (U F')
        rw [hjd]; exact hqr (n2, RS.hp (k2 (Act.tau a j))) (by simp)
/-- A fact that names the value itself. -/
def PV.self (q : Value → PV) : PV := ⟨fun v w y => (q v).p v w y, fun {v _ _ _ _} h k => (q v).mono h k⟩
/-- Two objects; the result is told by itself, the second object by the result. -/
theorem o_callFS {f : FuncId} {args : Array Operand} {tys : Array TypeId} {d' : Nat} {ps : List (Nat × SF)} {avs : List PV} {h1 h2 k1 : HP} {k2 : Value → HP} {q : Value → PV} {fn : Func} (n1 n2 : Nat)
    (hc : FnG P f 2 avs [h1, h2] (PV.self q) (fun v => [k1, k2 v])) (hf : P.funcs[f]? = some fn) (hb : fn.body.isSome = true) (hn : (fn.name == "runtime.NumGoroutine") = false) (hne : Nat.beq n1 n2 = false)
    (ha : ∀ (a : Act) w y, Hps ps (Act.tau a) w y → ∃ vs : List Value, args.map a.eval = vs.toArray ∧ PVt avs vs w y) :
    OpC P ⟨some d', .call { callee := .value (.func f), args := args, argTypes := tys }, ty, pos, af, g⟩ ⟨ps, [(n1, RS.hp h1), (n2, RS.hp h2)], .fn d' q, [(n1, RS.hp k1), (n2, .ob (.slot d') k2)]⟩ :=
  o_callG (is := [n1, n2]) hc hf hb hn ha rfl (by have : n1 ≠ n2 := fun e => by subst e; simp at hne
                                                  simp [this]) (fun τ w F hr i x hi => by
      match i, hi with
      | 0, hi => simp at hi; subst hi; exact ⟨n1, rfl, hr (n1, RS.hp h1) (by simp)⟩
      | 1, hi => simp at hi; subst hi; exact ⟨n2, rfl, hr (n2, RS.hp h2) (by simp)⟩)
    (fun τ w y v h => by
      show (q (upd τ (some d') v d')).p v w y
      have : upd τ (some d') v d' = v := by simp [upd]
      rw [this]; exact h) (fun x hx => by
      simp only [List.mem_cons, List.not_mem_nil, or_false] at hx
      rcases hx with rfl | rfl
      · exact ⟨0, rfl, fun v τ w f y ⟨k, hk, hp⟩ => by simp at hk; subst hk; exact hp⟩
      · exact ⟨1, rfl, fun v τ w f y ⟨k, hk, hp⟩ => by simp at hk; subst hk; simpa [RS.holds, Anc.v, upd] using hp⟩) rfl (fun _ => rfl)
/-- The first cell of a tuple's first part. -/
def hdA : Value → Value
  | .agg cs => cs.toList.headD undef
  | _ => undef
def hdT : Value → Value
  | .tuple vs => hdA (vs.toList.headD undef)
  | _ => undef
/-- Two objects at a return: the second one is known by the first cell of the first result. -/
theorem ret_G2h {B : Base} {F0 : Fp} (hG : BaseG B F0 2) {E : En} {a : Act} {w : World} {F : Fp} {fn : Func} {β : Type} {g : β → Value} {b0 : β} {l : Value → List PV} {p2 : PV} {k1 : HP} {k2 : β → HP} {ss : List SF} (hS : Sat B E a w F) (h0 : look E.r 0 = some (frame B))
    (hr : ROk P E fn.results.toList ss) (hq : Tells ss (.tup [.agg (.is (g b0) :: l (g b0)), p2])) (h1 : look E.r 1 = some (RS.hp k1)) (h2 : look E.r 2 = some (RS.hp (k2 b0))) :
    bodyPost P fn (RG B F0 2 (PV.self fun v => .tup [.agg (.is (hdT v) :: l (hdT v)), p2]) (fun v => [k1, HP.named g k2 (hdT v)])) .ret a w := by
  have key : ∀ {v w y}, (PV.tup [.agg (.is (g b0) :: l (g b0)), p2]).p v w y → hdT v = g b0 := by
    rintro v w y ⟨vs, rfl, h⟩
    match vs, h with
    | u :: us, h =>
      obtain ⟨cs, rfl, hc⟩ := h.1
      match cs, hc with
      | c :: cs, hc =>
        have e : c = g b0 := hc.1.2.1
        simp [hdT, hdA, e]
  refine ret_G hG hS h0 hr (q := PV.self _) (fun τ w y vs hv => ?_) fun v τ y hv i h hi => ?_
  · have hp := hq τ w y vs hv
    have e := key hp
    show (PV.tup [.agg (.is (hdT (valOf vs)) :: l (hdT (valOf vs))), p2]).p (valOf vs) w y
    rw [e]; exact hp
  · obtain ⟨vs, rfl, hvs⟩ := hv
    have e := key (hq _ _ _ _ hvs)
    match i, hi with
    | 0, hi => simp at hi; subst hi; exact ⟨_, h1, by omega, fun _ _ _ h => h⟩
    | 1, hi => simp at hi; subst hi; exact ⟨_, h2, by omega, fun τ w f h => by rw [e]; exact ⟨b0, rfl, h⟩⟩
/-- Two objects, whatever is told. -/
theorem o_callG2c {f : FuncId} {args : Array Operand} {tys : Array TypeId} {d' : Nat} {ps : List (Nat × SF)} {avs : List PV} {h1 h2 k1 k2 : HP} {q : PV} {fn : Func} (n1 n2 : Nat)
    (hc : FnG P f 2 avs [h1, h2] q (fun _ => [k1, k2])) (hf : P.funcs[f]? = some fn) (hb : fn.body.isSome = true) (hn : (fn.name == "runtime.NumGoroutine") = false) (hne : Nat.beq n1 n2 = false)
    (ha : ∀ (a : Act) w y, Hps ps (Act.tau a) w y → ∃ vs : List Value, args.map a.eval = vs.toArray ∧ PVt avs vs w y) :
    OpC P ⟨some d', .call { callee := .value (.func f), args := args, argTypes := tys }, ty, pos, af, g⟩ ⟨ps, [(n1, RS.hp h1), (n2, RS.hp h2)], .pv q, [(n1, RS.hp k1), (n2, RS.hp k2)]⟩ :=
  o_callG (is := [n1, n2]) hc hf hb hn ha rfl (by have : n1 ≠ n2 := fun e => by subst e; simp at hne
                                                  simp [this]) (fun τ w F hr i x hi => by
      match i, hi with
      | 0, hi => simp at hi; subst hi; exact ⟨n1, rfl, hr (n1, RS.hp h1) (by simp)⟩
      | 1, hi => simp at hi; subst hi; exact ⟨n2, rfl, hr (n2, RS.hp h2) (by simp)⟩)
    (fun _ _ _ _ h => h) (fun x hx => by
      simp only [List.mem_cons, List.not_mem_nil, or_false] at hx
      rcases hx with rfl | rfl
      · exact ⟨0, rfl, fun v τ w f y ⟨k, hk, hp⟩ => by simp at hk; subst hk; exact hp⟩
      · exact ⟨1, rfl, fun v τ w f y ⟨k, hk, hp⟩ => by simp at hk; subst hk; exact hp⟩) rfl (fun _ => rfl)
/-- Cells that hang on what slot j holds. -/
inductive CFn (j : Nat) : List CF → (Value → List PV) → Prop
  | nil : CFn j [] (fun _ => [])
  | same {cs : List CF} {l : Value → List PV} (h : CFn j cs l) : CFn j (.same j :: cs) (fun v => .is v :: l v)
  | fn {cs : List CF} {l : Value → List PV} {p : Value → PV} (h : CFn j cs l) : CFn j (.fn j p :: cs) (fun v => p v :: l v)
  | pv {cs : List CF} {l : Value → List PV} {p : PV} (h : CFn j cs l) : CFn j (.pv p :: cs) (fun v => p :: l v)
theorem CFn.holds {j : Nat} {τ : Tau} {w : World} {y : Ys} {cs : List CF} {l : Value → List PV} (h : CFn j cs l) : ∀ {vs : List Value}, PVs (l (τ j)) vs w y → CFs τ w y cs vs := by
  induction h with
  | nil => intro vs h; cases vs with
    | nil => trivial
    | cons => exact h.elim
  | same h ih => intro vs h; cases vs with
    | nil => exact h.elim
    | cons v vs => exact ⟨⟨h.1.1, h.1.2.1, h.1.1⟩, ih h.2⟩
  | fn h ih => intro vs h; cases vs with
    | nil => exact h.elim
    | cons v vs => exact ⟨h.1, ih h.2⟩
  | pv h ih => intro vs h; cases vs with
    | nil => exact h.elim
    | cons v vs => exact ⟨h.1, ih h.2⟩
theorem Ent.fnAgg {j : Nat} {cs : List CF} {l : Value → List PV} (h : CFn j cs l) : Ent (.fn j (fun v => .agg (l v))) (.agg cs) := fun τ w y v ⟨vs, e, k⟩ => ⟨vs, e, h.holds k⟩
/-- A tuple's part that hangs on what slot j holds. -/
theorem o_extractF {j m : Nat} {l : Value → List PV} {i : Nat} {p : Value → PV} (hi : ∀ v, (l v)[i]? = some (p v)) (hd : depOk d (.fn j p) = true) : OpC P ⟨d, .extract (.tmp m) i, ty, pos, af, g⟩ ⟨[(m, .fn j (fun v => .tup (l v)))], [], .fn j p, []⟩ :=
  OpC.pure fun a w yy hp => by
    obtain ⟨vs, e, h⟩ := hp (m, .fn j (fun v => .tup (l v))) (by simp)
    obtain ⟨v, h1, h2⟩ := PVt.get h (hi _)
    refine ⟨v, ?_, fun τ' ht => depOk_mono hd ht h2⟩
    simp [execOp, Instr.extract, Act.eval_tmp, e, h1]
/-- .. that does not. -/
theorem o_extractFc {j m : Nat} {l : Value → List PV} {i : Nat} {p : PV} (hi : ∀ v, (l v)[i]? = some p) : OpC P ⟨d, .extract (.tmp m) i, ty, pos, af, g⟩ ⟨[(m, .fn j (fun v => .tup (l v)))], [], .pv p, []⟩ :=
  OpC.pure fun a w yy hp => by
    obtain ⟨vs, e, h⟩ := hp (m, .fn j (fun v => .tup (l v))) (by simp)
    obtain ⟨v, h1, h2⟩ := PVt.get h (hi _)
    exact ⟨v, by simp [execOp, Instr.extract, Act.eval_tmp, e, h1], fun τ' ht => h2⟩
end
end Go.Gm

namespace Go.Gm
set_option linter.unusedVariables false
set_option linter.unusedSimpArgs false
theorem stars_perm {w : World} {y : Ys} {rs rs' : List RS} (hp : rs.Perm rs') : ∀ {f : Ys}, stars w y rs f → stars w y rs' f := by
  induction hp with
  | nil => intro f h; exact h
  | cons r _ ih =>
    rintro f ⟨f1, f2, h1, h2, h3, h4, h5⟩
    exact ⟨f1, f2, h1, h2, h3, h4, ih h5⟩
  | swap r1 r2 l =>
    rintro f ⟨f1, f2, h1, h2, h3, h4, f3, f4, k1, k2, k3, k4, k5⟩
    refine ⟨f3, fun b => f1 b ∨ f4 b, fun b => ?_, fun b hb hc => ?_, k3, k4, f1, f4, fun b => Iff.rfl, fun b hb hc => ?_, h3, h4, k5⟩
    · rw [h1, k1]
      constructor
      · rintro (h | h | h)
        · exact .inr (.inl h)
        · exact .inl h
        · exact .inr (.inr h)
      · rintro (h | h | h)
        · exact .inr (.inl h)
        · exact .inl h
        · exact .inr (.inr h)
    · rcases hc with hc | hc
      · exact h2 b hc ((k1 b).2 (.inl hb))
      · exact k2 b hb hc
    · exact h2 b hb ((k1 b).2 (.inr hc))
  | trans _ _ ih1 ih2 => intro f h; exact ih2 (ih1 h)
theorem erase_perm {α : Type} : ∀ {L : List α} {j : Nat} {x : α}, L[j]? = some x → L.Perm (x :: L.eraseIdx j)
  | [], j, x, h => by simp at h
  | y :: L, 0, x, h => by simp at h; subst h; exact List.Perm.refl _
  | y :: L, j + 1, x, h => by
    have := erase_perm (L := L) (j := j) (x := x) (by simpa using h)
    exact (this.cons y).trans (List.Perm.swap x y _)
section
variable {B : Base} {E : En} {a : Act} {w : World} {F : Fp} {α : Type} {g : α → HP}
abbrev famS (g : α → HP) (L : List α) : RS := RS.hp (HP.star (L.map fun x => RS.hp (g x)))
theorem Sat.takeAt (g : α → HP) {L : List α} {x : α} (h : Sat B E a w F) (n i j : Nat) (hl : look E.r n = some (famS g L)) (hi : look E.r i = none) (hj : L[j]? = some x) :
    ∃ F', Sat B ⟨E.s, (i, RS.hp (g x)) :: (n, famS g (L.eraseIdx j)) :: E.r⟩ a w F' := by
  have h1 := h.turn n hl (r' := RS.hp (HP.star (RS.hp (g x) :: (L.eraseIdx j).map fun x => RS.hp (g x)))) (fun _ _ _ _ k => stars_perm ((erase_perm hj).map fun x => RS.hp (g x)) k)
  have hni : n ≠ i := fun e => by subst e; rw [hl] at hi; cases hi
  obtain ⟨F', h2⟩ := h1.peel n i (by rw [look_cons, if_pos rfl]) (by rw [look_cons, if_neg hni]; exact hi)
  refine ⟨F', h2.congr (fun _ => rfl) (fun k => ?_)⟩
  simp only [look_cons]
  split
  · rfl
  · split
    · rfl
    · rfl
theorem Sat.putAt (g : α → HP) {L : List α} {x : α} (h : Sat B E a w F) (n i j : Nat) (hj : j < L.length) (hl : look E.r n = some (famS g (L.eraseIdx j))) (hi : look E.r i = some (RS.hp (g x))) (hne : Nat.beq n i = false) :
    ∃ F', Sat B ⟨E.s, (n, famS g (L.set j x)) :: (i, RS.hp (HP.star [])) :: E.r⟩ a w F' := by
  obtain ⟨F', h1⟩ := h.push n i hl hi hne rfl
  have hp : (RS.hp (g x) :: (L.eraseIdx j).map fun x => RS.hp (g x)).Perm ((L.set j x).map fun x => RS.hp (g x)) := by
    have := (erase_perm (L := L.set j x) (j := j) (x := x) (by simp [hj])).symm.map fun x => RS.hp (g x)
    rwa [List.eraseIdx_set_eq] at this
  have h2 := h1.turn n (r := RS.hp (HP.star (RS.hp (g x) :: (L.eraseIdx j).map fun x => RS.hp (g x)))) (by rw [look_cons, if_pos rfl]) (r' := famS g (L.set j x)) (fun _ _ _ _ k => stars_perm hp k)
  refine ⟨F', h2.congr (fun _ => rfl) (fun k => ?_)⟩
  simp only [look_cons]
  split
  · rfl
  · split
    · rfl
    · rfl
/-- .. the same one. -/
theorem Sat.putBack (g : α → HP) {L : List α} {x : α} (h : Sat B E a w F) (n i j : Nat) (hj : L[j]? = some x) (hl : look E.r n = some (famS g (L.eraseIdx j))) (hi : look E.r i = some (RS.hp (g x))) (hne : Nat.beq n i = false) :
    ∃ F', Sat B ⟨E.s, (n, famS g L) :: (i, RS.hp (HP.star [])) :: E.r⟩ a w F' := by
  have hlt := (List.getElem?_eq_some_iff.1 hj).1
  have := h.putAt g n i j hlt hl hi hne
  have e : L.set j x = L := by
    have := (List.getElem?_eq_some_iff.1 hj).2
    rw [← this]; exact List.set_getElem_self hlt
  rwa [e] at this
theorem eraseIdx_last {L : List α} {x : α} : (L ++ [x]).eraseIdx L.length = L := by
  rw [List.eraseIdx_append_of_length_le (Nat.le_refl _)]
  simp
theorem HP.named_open {β : Type} {g : β → Value} {h : β → HP} (hg : ∀ b b', g b = g b' → b = b') {b : β} {v : Value} (e : v = g b) {w : World} {f y : Ys} (k : (HP.named g h v).p w f y) : (h b).p w f y := by
  obtain ⟨b', e', k⟩ := k
  have := hg b b' (e ▸ e')
  subst this; exact k
end
end Go.Gm

namespace Go.Gm
set_option linter.unusedVariables false
set_option linter.unusedSimpArgs false
theorem Args.seven {x1 x2 x3 x4 x5 x6 x7 : Operand} {ps1 ps2 ps3 ps4 ps5 ps6 ps7 : List (Nat × SF)} {p1 p2 p3 p4 p5 p6 p7 : PV} (h1 : Opd x1 ps1 (.pv p1)) (h2 : Opd x2 ps2 (.pv p2)) (h3 : Opd x3 ps3 (.pv p3)) (h4 : Opd x4 ps4 (.pv p4)) (h5 : Opd x5 ps5 (.pv p5)) (h6 : Opd x6 ps6 (.pv p6)) (h7 : Opd x7 ps7 (.pv p7)) :
    ∀ (a : Act) w y, Hps (ps1 ++ (ps2 ++ (ps3 ++ (ps4 ++ (ps5 ++ (ps6 ++ ps7)))))) (Act.tau a) w y → ∃ vs : List Value, (#[x1, x2, x3, x4, x5, x6, x7] : Array Operand).map a.eval = vs.toArray ∧ PVt [p1, p2, p3, p4, p5, p6, p7] vs w y :=
  fun a w y hp => ⟨[a.eval x1, a.eval x2, a.eval x3, a.eval x4, a.eval x5, a.eval x6, a.eval x7], by simp, h1 a w y hp.left, h2 a w y hp.right.left, h3 a w y hp.right.right.left, h4 a w y hp.right.right.right.left, h5 a w y hp.right.right.right.right.left, h6 a w y hp.right.right.right.right.right.left, h7 a w y hp.right.right.right.right.right.right, trivial⟩
theorem PVt.append {w y} : ∀ {ps qs : List PV} {us vs : List Value}, PVt ps us w y → PVt qs vs w y → PVt (ps ++ qs) (us ++ vs) w y
  | [], _, [], _, _, k => k
  | p :: ps, _, v :: us, _, hh, k => ⟨hh.1, PVt.append hh.2 k⟩
  | [], _, _ :: _, _, hh, _ => hh.elim
  | _ :: _, _, [], _, hh, _ => hh.elim
/-- A function value. -/
def PV.clos (f : FuncId) (cps : List PV) : PV := ⟨fun u w y => ∃ caps : List Value, u = .func (.func f) #[] caps.toArray ∧ PVt cps caps w y, fun h ⟨caps, e, k⟩ => ⟨caps, e, PVt.mono h k⟩⟩
section
variable {P : Program} {d : Option Nat} {ty : TypeId} {pos : String} {af : Array Edge} {g : Option (Nat × Bool)}
theorem o_makeFunc {f : FuncId} {caps : Array Operand} {ps : List (Nat × SF)} {cps : List PV}
    (ha : ∀ (a : Act) w y, Hps ps (Act.tau a) w y → ∃ vs : List Value, caps.map a.eval = vs.toArray ∧ PVt cps vs w y) :
    OpC P ⟨d, .makeFunc (.func f) #[] caps, ty, pos, af, g⟩ ⟨ps, [], .pv (.clos f cps), []⟩ :=
  OpC.pure fun a w yy hp => by
    obtain ⟨vs, e, h⟩ := ha a w yy hp
    exact ⟨.func (.func f) #[] vs.toArray, by simp [execOp, Instr.makeFunc, e], fun _ _ => ⟨vs, rfl, h⟩⟩
theorem o_box1 {d' : Nat} {x : Operand} {ps : List (Nat × SF)} {t : TypeId} {p : PV} (n : Nat) (hx : Opd x ps (.pv p)) (h1 : ∀ v w yy, p.p v w yy → v.oneCell' = true) :
    OpC P ⟨some d', .box t x, ty, pos, af, g⟩ ⟨ps, [], .same d', [(n, .pt (.slot d') t [.pv p])]⟩ :=
  o_new n rfl (fun a w y hp => by
    have h := hx a w y hp
    have h1' := h1 _ _ _ h
    refine ⟨[a.eval x], ⟨⟨h1', h⟩, trivial⟩, ?_⟩
    cases e : a.eval x <;> rw [e] at h1' <;> first | (simp [execOp, Instr.box, e, newVar, newRow, Value.cells]; done) | simp [Value.oneCell'] at h1') rfl
/-- A call of a function value that changes one object. -/
theorem o_callClos {f : FuncId} {x : Operand} {args : Array Operand} {tys : Array TypeId} {d' : Nat} {qs ps : List (Nat × SF)} {avs cps : List PV} {h h' : HP} {q : PV} {fn : Func} (n : Nat) (hx : Opd x qs (.pv (.clos f cps)))
    (hc : FnG P f 1 (avs ++ cps) [h] q (fun _ => [h'])) (hf : P.funcs[f]? = some fn) (hb : fn.body.isSome = true) (hn : (fn.name == "runtime.NumGoroutine") = false)
    (ha : ∀ (a : Act) w y, Hps ps (Act.tau a) w y → ∃ vs : List Value, args.map a.eval = vs.toArray ∧ PVt avs vs w y) :
    OpC P ⟨some d', .call { callee := .value x, args := args, argTypes := tys }, ty, pos, af, g⟩ ⟨qs ++ ps, [(n, RS.hp h)], .pv q, [(n, RS.hp h')]⟩ :=
  o_callGen (is := [n]) (avs := avs ++ cps) hc (fun a w y hp => by
      obtain ⟨vs, e, hvs⟩ := ha a w y hp.right
      obtain ⟨caps, e2, hcs⟩ := hx a w y hp.left
      have hbn : fn.body ≠ none := by intro h; rw [h] at hb; cases hb
      have hn' : fn.name ≠ "runtime.NumGoroutine" := by intro h; rw [h] at hn; simp at hn
      exact ⟨vs ++ caps, by simp [execOp, resolve, e, e2, Deferred.ofValue, invoke, callFunc, hf, hn', hbn], hvs.append hcs⟩) rfl (by simp) (fun τ w F hr i x hi => by
      match i, hi with
      | 0, hi => simp at hi; subst hi; exact ⟨n, rfl, hr (n, RS.hp h) (by simp)⟩)
    (fun _ _ _ _ h => h) (fun x hx => by
      simp only [List.mem_singleton] at hx
      subst hx
      exact ⟨0, rfl, fun v τ w f y ⟨k, hk, hp⟩ => by simp at hk; subst hk; exact hp⟩) rfl (fun _ => rfl)
end
end Go.Gm
