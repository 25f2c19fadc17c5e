/- Calls under a guard that leave objects as they are; new objects; nil rows. No condition. -/
import Derived.Test.YtfldilhddeabeaaDoorLibN
namespace Go.Gm
set_option linter.unusedVariables false
set_option linter.unusedSimpArgs false

def rsClosed : List (Nat × RS) → Bool
  | [] => true
  | x :: xs => noDeps x.2.deps && rsClosed xs
theorem rsClosed_mem : ∀ {l : List (Nat × RS)} {x : Nat × RS}, rsClosed l = true → x ∈ l → x.2.deps = []
  | y :: ys, x, h, hx => by
    simp only [rsClosed, Bool.and_eq_true] at h
    rcases List.mem_cons.1 hx with rfl | hx
    · exact noDeps_eq h.1
    · exact rsClosed_mem h.2 hx
theorem Stp.any (W : List Nat) (w : World) (F : Fp) : Stp W w F w F := ⟨rfl, rfl, rfl, Nat.le_refl _, fun _ _ _ => rfl, fun _ _ => rfl, fun n hn b hb => .inl ⟨n, hn, hb⟩⟩

section
variable {P : Program}
theorem Cert.condR {ops : Array Oper} {o : Oper} {ps : List (Nat × SF)} {pr : List (Nat × RS)} {q : SF} {j sj : Nat} {want β : Bool} (hg : o.guard = some (j, want))
    (hj : (ops[j]?).bind (·.dst) = some sj) (hc : rsClosed pr = true) (h : β = want → OpC P o ⟨ps, pr, q, pr⟩) : Cert P ops o ⟨(sj, .pv (.bool β)) :: ps, pr, .when (β = want) q, pr⟩ := fun a w F K Q hw hs hr ht => by
  have hb : Act.tau a sj = .bool β := hs (sj, .pv (.bool β)) (by simp)
  by_cases hβ : β = want
  · have : Region.wanted o (yielded ops a.tmps) = true := by simp [Region.wanted, hg, yielded_bool hj hb, hβ]
    rw [if_pos this]
    exact h hβ a w F K Q hw (fun x hx => hs x (by simp [hx])) hr (fun v w' F' h1 h2 h3 h4 => ht v w' F' h1 h2 ⟨fun _ => h3, fun h => absurd hβ h⟩ h4)
  · have : Region.wanted o (yielded ops a.tmps) = false := by
      simp [Region.wanted, hg, yielded_bool hj hb, hβ]
    rw [this]
    exact ht _ w F hw (Stp.any _ w F) ⟨fun h => absurd h hβ, fun _ => rfl⟩ (fun x hx => RS.closed (rsClosed_mem hc hx) (hr x hx))
theorem Cert.cond2R {ops : Array Oper} {o : Oper} {ps : List (Nat × SF)} {pr : List (Nat × RS)} {q : SF} {j sj : Nat} {want γ : Bool} {c : Prop} (hg : o.guard = some (j, want))
    (hj : (ops[j]?).bind (·.dst) = some sj) (hc : rsClosed pr = true) (h : c ∧ γ = want → OpC P o ⟨ps, pr, q, pr⟩) : Cert P ops o ⟨(sj, .when c (.pv (.bool γ))) :: ps, pr, .when (c ∧ γ = want) q, pr⟩ := fun a w F K Q hw hs hr ht => by
  have hb := hs (sj, .when c (.pv (.bool γ))) (by simp)
  by_cases hβ : c ∧ γ = want
  · have hv : Act.tau a sj = .bool γ := hb.1 hβ.1
    have : Region.wanted o (yielded ops a.tmps) = true := by simp [Region.wanted, hg, yielded_bool hj hv, hβ.2]
    rw [if_pos this]
    exact h hβ a w F K Q hw (fun x hx => hs x (by simp [hx])) hr (fun v w' F' h1 h2 h3 h4 => ht v w' F' h1 h2 ⟨fun _ => h3, fun h => absurd hβ h⟩ h4)
  · have : Region.wanted o (yielded ops a.tmps) = false := by
      by_cases hc : c
      · have hv : Act.tau a sj = .bool γ := hb.1 hc
        have hne : γ ≠ want := fun e => hβ ⟨hc, e⟩
        simp [Region.wanted, hg, yielded_bool hj hv, hne]
      · have hu : Act.tau a sj = undef := hb.2 hc
        have : yielded ops a.tmps j = none := by
          simp only [yielded, hj, Option.bind_some]
          simp only [Act.tau, Array.getD_eq_getD_getElem?] at hu
          cases e : a.tmps[sj]? with
          | none => rfl
          | some v => rw [e] at hu; simp at hu; subst hu; rfl
        simp [Region.wanted, hg, this]
    rw [this]
    exact ht _ w F hw (Stp.any _ w F) ⟨fun h => absurd h hβ, fun _ => rfl⟩ (fun x hx => RS.closed (rsClosed_mem hc hx) (hr x hx))
end

section
variable {P : Program} {d : Option Nat} {t ty : TypeId} {pos : String} {af : Array Edge} {g : Option (Nat × Bool)} {ps : List (Nat × SF)}
theorem o_buildSliceE {e sz n : Nat} {zs : List Value} {r : List (Nat × Operand)} {l : List PV} {cs : List CF} (hu : P.underlying t = some (.slice e)) (hsz : (P.info? e).map (·.size) = some sz) (hz : P.zeros e = some zs) (hn : Nat.ble (n * sz) 1000 = true) (h0 : Nat.blt 0 (n * sz) = true) (hzl : zs.length = sz)
    {zz : List CF} (hzz : ((List.range (n * sz)).map fun i => zCF (zs.getD (i % sz) undef)) = zz)
    (hparts : Parts P ((List.range n).map fun i => (i * sz, sz)) r ps zz cs) (hl : cs = l.map CF.pv) :
    OpC P ⟨d, .buildSlice t n r.toArray, ty, pos, af, g⟩ ⟨ps, [], .pv (.arr n l), []⟩ := by
  subst hl
  exact o_buildSlice hu hsz hz hn h0 hzl hzz hparts
variable {α : Type} {R : α → List PV} {l : List α} {x z z' : Operand} {qs rs : List (Nat × SF)} {e sz : Nat} {k k' : IntKind} {i j : Int}
theorem o_slice_hi (he : elemOk P t e sz) (hR : ∀ x, (R x).length = sz) (hx : Opd x ps (.pv (.sl R l))) (hz : Opd z qs (.pv (.int k j))) (h1 : 0 ≤ j) (h2 : j ≤ l.length) :
    OpC P ⟨d, .slice t x none (some z) none, ty, pos, af, g⟩ ⟨ps ++ qs, [], .pv (.sl R (l.take j.toNat)), []⟩ := by
  have := o_slice_sl (d := d) (ty := ty) (pos := pos) (af := af) (g := g) (P := P) (lo := none) (hi := some z) (k1 := .i64) (i := 0) (qs := []) he hR hx ⟨rfl, rfl⟩ hz (Int.le_refl 0) h1 h2
  simpa using this
theorem o_slice_lo (he : elemOk P t e sz) (hR : ∀ x, (R x).length = sz) (hx : Opd x ps (.pv (.sl R l))) (hz : Opd z qs (.pv (.int k i))) (h1 : 0 ≤ i) (h2 : i ≤ l.length) :
    OpC P ⟨d, .slice t x (some z) none none, ty, pos, af, g⟩ ⟨ps ++ qs, [], .pv (.sl R (l.drop i.toNat)), []⟩ := by
  have := o_slice_sl (d := d) (ty := ty) (pos := pos) (af := af) (g := g) (P := P) (lo := some z) (hi := none) (k2 := .i64) (rs := []) he hR hx hz ⟨rfl, rfl⟩ h1 h2 (Int.le_refl _)
  simpa using this
theorem o_slice_lh (he : elemOk P t e sz) (hR : ∀ x, (R x).length = sz) (hx : Opd x ps (.pv (.sl R l))) (hz : Opd z qs (.pv (.int k i))) (hz' : Opd z' rs (.pv (.int k' j))) (h0 : 0 ≤ i) (h1 : i ≤ j) (h2 : j ≤ l.length) :
    OpC P ⟨d, .slice t x (some z) (some z') none, ty, pos, af, g⟩ ⟨ps ++ (qs ++ rs), [], .pv (.sl R ((l.take j.toNat).drop i.toNat)), []⟩ :=
  o_slice_sl (lo := some z) (hi := some z') he hR hx hz hz' h0 h1 h2
end

/-- A pointer to a block's beginning. -/
def PV.ptr : PV := ⟨fun u _ _ => ∃ b, u = .pointer (some ⟨b, 0, none⟩), fun _ h => h⟩
theorem PV.ptr_one (v : Value) (w : World) (y : Ys) (h : PV.ptr.p v w y) : v.oneCell' = true := by obtain ⟨b, rfl⟩ := h; rfl

section
variable {B : Base} {E : En} {a : Act} {w : World} {F : Fp}
theorem Sat.shape {v : Value} {T : TypeId} {cells : List CF} (h : Sat B E a w F) (n : Nat) (hl : look E.r n = some (.pt (.val v) T cells)) : ∃ b, v = .pointer (some ⟨b, 0, none⟩) := by
  obtain ⟨b, vs, e, _⟩ := h.r n _ hl
  exact ⟨b, e⟩
theorem Ent.ptr {b : Nat} : Ent (.pv (.is (.pointer (some ⟨b, 0, none⟩)))) (.pv PV.ptr) := fun _ _ _ v h => ⟨b, h.1⟩
theorem nilRow {α : Type} {T sz : Nat} {R : α → List PV} (τ : Tau) (w : World) (f y : Ys) (h : (RS.hp (HP.star [])).holds τ w f y) : (RS.ob (.val (.slice none 0 0)) (rowH T sz R ([] : List α))).holds τ w f y := by
  have e : f = fun _ => False := by funext b; exact propext ⟨fun k => h b k, fun k => k.elim⟩
  subst e
  exact rowH_nil
def unCF : List CF → List PV
  | .pv p :: cs => p :: unCF cs
  | .same _ :: cs => PV.any :: unCF cs
  | [] => []
def okCF : List CF → Bool
  | .pv p :: cs => okCF cs
  | .same _ :: cs => false
  | [] => true
theorem PVs.unCF {w y} {τ : Tau} : ∀ {cs : List CF} {vs : List Value}, okCF cs = true → CFs τ w y cs vs → PVs (unCF cs) vs w y
  | [], [], _, _ => trivial
  | .pv p :: cs, v :: vs, h, k => ⟨k.1, PVs.unCF h k.2⟩
  | .same _ :: cs, v :: vs, h, k => by cases h
  | [], _ :: _, _, k => k.elim
  | .pv _ :: _, [], _, k => k.elim
  | .same _ :: _, [], _, k => k.elim
theorem Ent.aggU {cs : List CF} {l : List PV} (h : okCF cs = true) (e : unCF cs = l) : Ent (.agg cs) (.pv (.agg l)) := fun τ w y v ⟨vs, e', k⟩ => ⟨vs, e', by rw [← e]; exact PVs.unCF h k⟩
end

section
variable {B : Base} {E : En} {a : Act} {w : World} {F : Fp}
/-- Another fact of a slot. -/
theorem Sat.ent {i : Nat} {s s' : SF} (h : Sat B E a w F) (hl : look E.s i = some s) (he : Ent s s') : Sat B ⟨(i, s') :: E.s, E.r⟩ a w F :=
  ⟨h.wf, h.ev, h.n, h.df, fun j t hj => by
    rw [look_cons] at hj
    split at hj
    · rename_i e
      simp only [Option.some.injEq] at hj; subst hj; subst e
      exact he _ _ _ _ (h.s i s hl)
    · exact h.s j t hj, h.r, h.em⟩
theorem Ent.sl {α : Type} {R : α → List PV} {l l' : List α} (h : l = l') : Ent (.pv (.sl R l)) (.pv (.sl R l')) := by subst h; exact Ent.refl
theorem Ent.nilSl {α : Type} {R : α → List PV} : Ent (.pv (.is (.slice none 0 0))) (.pv (.sl R [])) := fun _ _ _ v h => ⟨none, 0, h.1, Nat.le_refl _, Nat.zero_le _, .inl rfl⟩
theorem Sat.obGet {v : Value} {h' : Value → HP} (h : Sat B E a w F) (n : Nat) (hl : look E.r n = some (.ob (.val v) h')) : ∃ w f y, (h' v).p w f y := ⟨_, _, _, h.r n _ hl⟩
theorem HP.star_pt {v : Value} {T : TypeId} {cells : List CF} {rs : List RS} {w : World} {f y : Ys} (h : (HP.star (.pt (.val v) T cells :: rs)).p w f y) : ∃ b, v = .pointer (some ⟨b, 0, none⟩) := by
  obtain ⟨_, _, _, _, _, ⟨b, _, e, _⟩, _⟩ := h
  exact ⟨b, e⟩
/-- A row that is owned is only read from now on. -/
theorem Sat.give {α : Type} {T sz : Nat} {R : α → List PV} {l : List α} {v : Value} (h : Sat B E a w F) (n i : Nat) (hn : look E.r n = some (.ob (.val v) (rowH T sz R l))) (hi : look E.s i = some (.pv (.is v))) :
    ∃ F', Sat B ⟨(i, .pv (.sl R l)) :: E.s, (n, RS.hp (HP.star [])) :: E.r⟩ a w F' := by
  have hle : ∀ b, U (fun m => if m = n then fun _ => False else F m) b → U F b := fun b ⟨m, hm⟩ => ⟨m, by
    by_cases e : m = n
    · simp only [e, if_true] at hm
    · simp only [e, if_false] at hm; exact hm⟩
  have hev := Ev.less w hle
  refine ⟨fun m => if m = n then fun _ => False else F m, ⟨fun m k b hm hk => ?_, fun m b hm => ?_⟩, h.ev.trans hev, h.n, h.df, fun j s hj => ?_, fun m r hm => ?_, fun m b hm => ?_⟩
  · by_cases e1 : m = n
    · simp only [e1, if_true] at hm
    · by_cases e2 : k = n
      · simp only [e2, if_true] at hk
      · simp only [e1, e2, if_false] at hm hk; exact h.wf.dis m k b hm hk
  · by_cases e1 : m = n
    · simp only [e1, if_true] at hm
    · simp only [e1, if_false] at hm; exact h.wf.bd m b hm
  · rw [look_cons] at hj
    split at hj
    · rename_i e
      simp only [Option.some.injEq] at hj; subst hj; subst e
      have hv : Act.tau a i = v := (h.s i _ hi).1
      obtain ⟨xs, h1, h2, h3⟩ := h.r n _ hn
      obtain ⟨ad, cap, e1, h4, h5, h6⟩ := row_shape h1
      simp only [Anc.v] at e1
      show (PV.sl R l).p (Act.tau a i) w _
      rw [hv, e1]
      refine ⟨ad, cap, rfl, h4, h5, ?_⟩
      rcases h6 with h6 | ⟨b, rfl, h7, h8⟩
      · exact .inl (List.eq_nil_of_length_eq_zero h6)
      · have hb : F n b := (h3 b).2 h7
        refine .inr ⟨b, 0, xs, rfl, ?_, h.wf.bd n b hb, h8, PVs.mono hev h2⟩
        rintro ⟨m, hm⟩
        by_cases e2 : m = n
        · simp only [e2, if_true] at hm
        · simp only [e2, if_false] at hm
          exact e2 (h.wf.dis m n b hm hb)
    · exact SF.mono hev (fun _ _ => rfl) (h.s j s hj)
  · rw [look_cons] at hm
    split at hm
    · rename_i e
      simp only [Option.some.injEq] at hm; subst hm; subst e
      intro b hb
      simp only [if_true] at hb
    · rename_i e
      have e2 : ¬ m = n := fun h => e h.symm
      simp only [e2, if_false]
      exact RS.mono hev (fun _ _ => rfl) (fun _ _ => rfl) (h.r m r hm)
  · by_cases e1 : m = n
    · simp only [e1, if_true] at hm
    · simp only [e1, if_false] at hm
      obtain ⟨r, hr⟩ := h.em m b hm
      exact ⟨r, by rw [look_cons, if_neg (fun h => e1 h.symm)]; exact hr⟩
end
end Go.Gm
