/- Walks: loops, strings, arrays, builders, handing over, arguments. No condition. -/
import Derived.Test.YtdfpljecogijaaaLibM
import Derived.Laws.Strings3
import Derived.Laws.Concat
import Derived.Laws.IdiomStrings
import Derived.Lib.Builder
import Derived.Lib.AppendStr
import Derived.Lib.UnsafeStr
import Derived.Laws.Externs
import Derived.ProofKit
import Derived.OpenShut
import Derived.WideKeyArgs
import Derived.Carry
import Derived.Deep.Slices
import Derived.Laws.MakeOwn
import Derived.Lib.SliceRun

namespace Go.Gm
set_option linter.unusedVariables false
set_option linter.unusedSimpArgs false

/-- Cells held against cells, one by one; 'true' marks an integer, 'false' a bool. -/
inductive EqCs : List Bool → List CF → List CF → Bool → Prop
  | nil : EqCs [] [] [] true
  | int {k : IntKind} {a b : Int} {ks : List Bool} {cs ds : List CF} {r : Bool} (h : EqCs ks cs ds r) : EqCs (true :: ks) (.pv (.int k a) :: cs) (.pv (.int k b) :: ds) (decide (a = b) && r)
  | bool {a b : Bool} {ks : List Bool} {cs ds : List CF} {r : Bool} (h : EqCs ks cs ds r) : EqCs (false :: ks) (.pv (.bool a) :: cs) (.pv (.bool b) :: ds) ((a == b) && r)

/-- A struct whose fields are a cell each, of integers or bools. -/
def flatFs (P : Program) : List Field → Nat → List Bool → Bool
  | [], _, [] => true
  | f :: fs, k, b :: ks => (f.name != "_") && Nat.beq f.offset k && (match P.underlying f.type with | some (.int _) => b | some .bool => !b | _ => false) && flatFs P fs (k + 1) ks
  | _, _, _ => false
section
variable {P : Program} {d : Option Nat} {ty : TypeId} {pos : String} {af : Array Edge} {g : Option (Nat × Bool)}
variable {x y : Operand} {ps qs : List (Nat × SF)} {t t' : TypeId} {cs ds : List CF} {r : Bool} {ks : List Bool}
theorem o_neqB {a b : Bool} (hu : P.underlying t = some .bool) (hx : Opd x ps (.pv (.bool a))) (hy : Opd y qs (.pv (.bool b))) : OpC P ⟨d, .binOp .neq t x y t', ty, pos, af, g⟩ ⟨ps ++ qs, [], .pv (.bool (a != b)), []⟩ :=
  OpC.pure fun act w yy hp => by
    have e1 : act.eval x = .bool a := hx act w yy hp.left
    have e2 : act.eval y = .bool b := hy act w yy hp.right
    have hg : (eqGuard .neq t x y (.bool a) (.bool b)).run P w = .ok () w := rfl
    have hb : (binOp .neq t (.bool a) (.bool b)).run P w = .ok (.bool (a != b)) w := by
      simp only [binOp, Op.equal, Op.maxDepth, Sem.run_bind]
      rw [show (10000 : Nat) = 9999 + 1 from rfl, run_equalIn_bool' w 9999 t a b hu]
      simp [bne]
    exact ⟨.bool (a != b), by simp only [execOp, e1, e2, Sem.run_bind, hg, Result.andThen_ok, hb, Sem.run_pure], fun _ _ => rfl⟩
end

theorem least (p : Nat → Prop) (h : ∃ n, p n) : ∃ n, p n ∧ ∀ m, p m → n ≤ m := by
  obtain ⟨n, hn⟩ := h
  induction n using Nat.strongRecOn with
  | _ n ih =>
    by_cases hs : ∃ m, m < n ∧ p m
    · obtain ⟨m, h1, h2⟩ := hs
      exact ih m h1 h2
    · exact ⟨n, hn, fun m hm => Nat.le_of_not_lt fun hlt => hs ⟨m, hlt, hm⟩⟩

/-- A loop: what holds at its head, told of a state σ; a round lowers the measure. -/
theorem loop_inv {P : Program} {Q : Exit → Act → World → Prop} {B : Base} {c : Code} {σ : Type} (I : σ → En) (C : σ → Prop) (μ : σ → Nat) {a : Act} {w : World} {F : Fp} (s0 : σ) (h0 : Sat B (I s0) a w F) (c0 : C s0)
    (round : ∀ s a w F, C s → Sat B (I s) a w F → c.wp P (Exit.then (fun a' w' => ∃ s' F', C s' ∧ Sat B (I s') a' w' F' ∧ μ s' < μ s) Q) a w) : (Code.loop c).wp P Q a w := by
  classical
  let p : Act → World → Nat → Prop := fun a w n => ∃ s F, C s ∧ Sat B (I s) a w F ∧ μ s = n
  let mm : Act → World → Nat := fun a w => if h : ∃ n, p a w n then Classical.choose (least (p a w) h) else 0
  have hmm : ∀ a w (h : ∃ n, p a w n), p a w (mm a w) ∧ ∀ m, p a w m → mm a w ≤ m := by
    intro a w h
    have := Classical.choose_spec (least (p a w) h)
    simp only [mm, dif_pos h]
    exact this
  refine wp_loop (fun a w => ∃ n, p a w n) mm ⟨_, s0, F, c0, h0, rfl⟩ ?_
  intro a w h
  obtain ⟨⟨s, F, h1, h2, h3⟩, _⟩ := hmm a w h
  refine Code.wp_mono ?_ (round s a w F h1 h2)
  intro e a' w' q
  cases e with
  | normal =>
    obtain ⟨s', F', k1, k2, k3⟩ := q
    have hp : p a' w' (μ s') := ⟨s', F', k1, k2, rfl⟩
    refine ⟨⟨_, hp⟩, ?_⟩
    have := (hmm a' w' ⟨_, hp⟩).2 _ hp
    omega
  | _ => exact q

theorem ret_G1 {P : Program} {B : Base} {F0 : Fp} (hG : BaseG B F0 1) {E : En} {a : Act} {w : World} {F : Fp} {fn : Func} {q : PV} {h' : HP} {ss : List SF} (hS : Sat B E a w F) (h0 : look E.r 0 = some (frame B)) (hr : ROk P E fn.results.toList ss) (hq : Tells ss q)
    (h1 : look E.r 1 = some (RS.hp h')) : bodyPost P fn (RG B F0 1 q (fun _ => [h'])) .ret a w :=
  ret_G hG hS h0 hr hq fun v τ y _ i h hi => by
    match i, hi with
    | 0, hi => simp at hi; subst hi; exact ⟨_, h1, Nat.le_refl _, fun _ _ _ k => k⟩
theorem ret_N1 {P : Program} {B : Base} {F0 : Fp} (hG : BaseG B F0 1) {E : En} {a : Act} {w : World} {F : Fp} {fn : Func} {q : PV} {h' : Value → HP} {v0 : Value} (hS : Sat B E a w F) (h0 : look E.r 0 = some (frame B)) (hr : ROk P E fn.results.toList [.pv (.is v0)]) (hq : Tells [.pv (.is v0)] q)
    (h1 : look E.r 1 = some (RS.hp (h' v0))) : bodyPost P fn (RG B F0 1 q (fun v => [h' v])) .ret a w :=
  ret_G hG hS h0 hr hq fun v τ y hv i h hi => by
    obtain ⟨vs, rfl, hvs⟩ := hv
    have e : valOf vs = v0 := by
      match vs, hvs with
      | [u], hvs => exact hvs.1.1
    rw [e] at hi
    match i, hi with
    | 0, hi => simp at hi; subst hi; exact ⟨_, h1, Nat.le_refl _, fun _ _ _ k => k⟩

/-- The range of a number that a slot holds. -/
theorem Sat.range {B : Base} {E : En} {a : Act} {w : World} {F : Fp} (h : Sat B E a w F) {i : Nat} {k : IntKind} {x : Int} (hl : look E.s i = some (.pv (.int k x))) : inR k x := (h.s i _ hl).2
end Go.Gm

namespace Go.Gm
set_option linter.unusedVariables false
set_option linter.unusedSimpArgs false

def rsClosed : List (Nat × RS) → Bool
  | [] => true
  | x :: xs => noDeps x.2.deps && rsClosed xs
theorem rsClosed_mem : ∀ {l : List (Nat × RS)} {x : Nat × RS}, rsClosed l = true → x ∈ l → x.2.deps = []
  | y :: ys, x, h, hx => by
    simp only [rsClosed, Bool.and_eq_true] at h
    rcases List.mem_cons.1 hx with rfl | hx
    · exact noDeps_eq h.1
    · exact rsClosed_mem h.2 hx
theorem Stp.any (W : List Nat) (w : World) (F : Fp) : Stp W w F w F := ⟨rfl, rfl, rfl, Nat.le_refl _, fun _ _ _ => rfl, fun _ _ => rfl, fun n hn b hb => .inl ⟨n, hn, hb⟩⟩

section
variable {P : Program}
theorem Cert.condR {ops : Array Oper} {o : Oper} {ps : List (Nat × SF)} {pr : List (Nat × RS)} {q : SF} {j sj : Nat} {want β : Bool} (hg : o.guard = some (j, want))
    (hj : (ops[j]?).bind (·.dst) = some sj) (hc : rsClosed pr = true) (h : β = want → OpC P o ⟨ps, pr, q, pr⟩) : Cert P ops o ⟨(sj, .pv (.bool β)) :: ps, pr, .when (β = want) q, pr⟩ := fun a w F K Q hw hs hr ht => by
  have hb : Act.tau a sj = .bool β := hs (sj, .pv (.bool β)) (by simp)
  by_cases hβ : β = want
  · have : Region.wanted o (yielded ops a.tmps) = true := by simp [Region.wanted, hg, yielded_bool hj hb, hβ]
    rw [if_pos this]
    exact h hβ a w F K Q hw (fun x hx => hs x (by simp [hx])) hr (fun v w' F' h1 h2 h3 h4 => ht v w' F' h1 h2 ⟨fun _ => h3, fun h => absurd hβ h⟩ h4)
  · have : Region.wanted o (yielded ops a.tmps) = false := by
      simp [Region.wanted, hg, yielded_bool hj hb, hβ]
    rw [this]
    exact ht _ w F hw (Stp.any _ w F) ⟨fun h => absurd h hβ, fun _ => rfl⟩ (fun x hx => RS.closed (rsClosed_mem hc hx) (hr x hx))
end

section
variable {P : Program} {d : Option Nat} {t ty : TypeId} {pos : String} {af : Array Edge} {g : Option (Nat × Bool)} {ps : List (Nat × SF)}
theorem o_buildSliceE {e sz n : Nat} {zs : List Value} {r : List (Nat × Operand)} {l : List PV} {cs : List CF} (hu : P.underlying t = some (.slice e)) (hsz : (P.info? e).map (·.size) = some sz) (hz : P.zeros e = some zs) (hn : Nat.ble (n * sz) 1000 = true) (h0 : Nat.blt 0 (n * sz) = true) (hzl : zs.length = sz)
    {zz : List CF} (hzz : ((List.range (n * sz)).map fun i => zCF (zs.getD (i % sz) undef)) = zz)
    (hparts : Parts P ((List.range n).map fun i => (i * sz, sz)) r ps zz cs) (hl : cs = l.map CF.pv) :
    OpC P ⟨d, .buildSlice t n r.toArray, ty, pos, af, g⟩ ⟨ps, [], .pv (.arr n l), []⟩ := by
  subst hl
  exact o_buildSlice hu hsz hz hn h0 hzl hzz hparts
variable {α : Type} {R : α → List PV} {l : List α} {x z z' : Operand} {qs rs : List (Nat × SF)} {e sz : Nat} {k k' : IntKind} {i j : Int}
theorem o_slice_hi (he : elemOk P t e sz) (hR : ∀ x, (R x).length = sz) (hx : Opd x ps (.pv (.sl R l))) (hz : Opd z qs (.pv (.int k j))) (h1 : 0 ≤ j) (h2 : j ≤ l.length) :
    OpC P ⟨d, .slice t x none (some z) none, ty, pos, af, g⟩ ⟨ps ++ qs, [], .pv (.sl R (l.take j.toNat)), []⟩ := by
  have := o_slice_sl (d := d) (ty := ty) (pos := pos) (af := af) (g := g) (P := P) (lo := none) (hi := some z) (k1 := .i64) (i := 0) (qs := []) he hR hx ⟨rfl, rfl⟩ hz (Int.le_refl 0) h1 h2
  simpa using this
theorem o_slice_lo (he : elemOk P t e sz) (hR : ∀ x, (R x).length = sz) (hx : Opd x ps (.pv (.sl R l))) (hz : Opd z qs (.pv (.int k i))) (h1 : 0 ≤ i) (h2 : i ≤ l.length) :
    OpC P ⟨d, .slice t x (some z) none none, ty, pos, af, g⟩ ⟨ps ++ qs, [], .pv (.sl R (l.drop i.toNat)), []⟩ := by
  have := o_slice_sl (d := d) (ty := ty) (pos := pos) (af := af) (g := g) (P := P) (lo := some z) (hi := none) (k2 := .i64) (rs := []) he hR hx hz ⟨rfl, rfl⟩ h1 h2 (Int.le_refl _)
  simpa using this
end

/-- A pointer to a block's beginning. -/
def PV.ptr : PV := ⟨fun u _ _ => ∃ b, u = .pointer (some ⟨b, 0, none⟩), fun _ h => h⟩
theorem PV.ptr_one (v : Value) (w : World) (y : Ys) (h : PV.ptr.p v w y) : v.oneCell' = true := by obtain ⟨b, rfl⟩ := h; rfl

section
variable {B : Base} {E : En} {a : Act} {w : World} {F : Fp}
theorem Sat.shape {v : Value} {T : TypeId} {cells : List CF} (h : Sat B E a w F) (n : Nat) (hl : look E.r n = some (.pt (.val v) T cells)) : ∃ b, v = .pointer (some ⟨b, 0, none⟩) := by
  obtain ⟨b, vs, e, _⟩ := h.r n _ hl
  exact ⟨b, e⟩
theorem Ent.ptr {b : Nat} : Ent (.pv (.is (.pointer (some ⟨b, 0, none⟩)))) (.pv PV.ptr) := fun _ _ _ v h => ⟨b, h.1⟩
theorem nilRow {α : Type} {T sz : Nat} {R : α → List PV} (τ : Tau) (w : World) (f y : Ys) (h : (RS.hp (HP.star [])).holds τ w f y) : (RS.ob (.val (.slice none 0 0)) (rowH T sz R ([] : List α))).holds τ w f y := by
  have e : f = fun _ => False := by funext b; exact propext ⟨fun k => h b k, fun k => k.elim⟩
  subst e
  exact rowH_nil
def unCF : List CF → List PV
  | .pv p :: cs => p :: unCF cs
  | .same _ :: cs => PV.any :: unCF cs
  | .fn _ _ :: cs => PV.any :: unCF cs
  | [] => []
def okCF : List CF → Bool
  | .pv p :: cs => okCF cs
  | .same _ :: cs => false
  | .fn _ _ :: cs => false
  | [] => true
theorem PVs.unCF {w y} {τ : Tau} : ∀ {cs : List CF} {vs : List Value}, okCF cs = true → CFs τ w y cs vs → PVs (unCF cs) vs w y
  | [], [], _, _ => trivial
  | .pv p :: cs, v :: vs, h, k => ⟨k.1, PVs.unCF h k.2⟩
  | .same _ :: cs, v :: vs, h, k => by cases h
  | .fn _ _ :: cs, v :: vs, h, k => by cases h
  | [], _ :: _, _, k => k.elim
  | .pv _ :: _, [], _, k => k.elim
  | .same _ :: _, [], _, k => k.elim
  | .fn _ _ :: _, [], _, k => k.elim
theorem Ent.aggU {cs : List CF} {l : List PV} (h : okCF cs = true) (e : unCF cs = l) : Ent (.agg cs) (.pv (.agg l)) := fun τ w y v ⟨vs, e', k⟩ => ⟨vs, e', by rw [← e]; exact PVs.unCF h k⟩
end

section
variable {B : Base} {E : En} {a : Act} {w : World} {F : Fp}
/-- Another fact of a slot. -/
theorem Sat.ent {i : Nat} {s s' : SF} (h : Sat B E a w F) (hl : look E.s i = some s) (he : Ent s s') : Sat B ⟨(i, s') :: E.s, E.r⟩ a w F :=
  ⟨h.wf, h.ev, h.n, h.df, fun j t hj => by
    rw [look_cons] at hj
    split at hj
    · rename_i e
      simp only [Option.some.injEq] at hj; subst hj; subst e
      exact he _ _ _ _ (h.s i s hl)
    · exact h.s j t hj, h.r, h.em⟩
theorem Ent.sl {α : Type} {R : α → List PV} {l l' : List α} (h : l = l') : Ent (.pv (.sl R l)) (.pv (.sl R l')) := by subst h; exact Ent.refl
theorem Ent.nilSl {α : Type} {R : α → List PV} : Ent (.pv (.is (.slice none 0 0))) (.pv (.sl R [])) := fun _ _ _ v h => ⟨none, 0, h.1, Nat.le_refl _, Nat.zero_le _, .inl rfl⟩
theorem Sat.obGet {v : Value} {h' : Value → HP} (h : Sat B E a w F) (n : Nat) (hl : look E.r n = some (.ob (.val v) h')) : ∃ w f y, (h' v).p w f y := ⟨_, _, _, h.r n _ hl⟩
theorem HP.star_pt {v : Value} {T : TypeId} {cells : List CF} {rs : List RS} {w : World} {f y : Ys} (h : (HP.star (.pt (.val v) T cells :: rs)).p w f y) : ∃ b, v = .pointer (some ⟨b, 0, none⟩) := by
  obtain ⟨_, _, _, _, _, ⟨b, _, e, _⟩, _⟩ := h
  exact ⟨b, e⟩
/-- A row that is owned is only read from now on. -/
theorem Sat.give {α : Type} {T sz : Nat} {R : α → List PV} {l : List α} {v : Value} (h : Sat B E a w F) (n i : Nat) (hn : look E.r n = some (.ob (.val v) (rowH T sz R l))) (hi : look E.s i = some (.pv (.is v))) :
    ∃ F', Sat B ⟨(i, .pv (.sl R l)) :: E.s, (n, RS.hp (HP.star [])) :: E.r⟩ a w F' := by
  have hle : ∀ b, U (fun m => if m = n then fun _ => False else F m) b → U F b := fun b ⟨m, hm⟩ => ⟨m, by
    by_cases e : m = n
    · simp only [e, if_true] at hm
    · simp only [e, if_false] at hm; exact hm⟩
  have hev := Ev.less w hle
  refine ⟨fun m => if m = n then fun _ => False else F m, ⟨fun m k b hm hk => ?_, fun m b hm => ?_⟩, h.ev.trans hev, h.n, h.df, fun j s hj => ?_, fun m r hm => ?_, fun m b hm => ?_⟩
  · by_cases e1 : m = n
    · simp only [e1, if_true] at hm
    · by_cases e2 : k = n
      · simp only [e2, if_true] at hk
      · simp only [e1, e2, if_false] at hm hk; exact h.wf.dis m k b hm hk
  · by_cases e1 : m = n
    · simp only [e1, if_true] at hm
    · simp only [e1, if_false] at hm; exact h.wf.bd m b hm
  · rw [look_cons] at hj
    split at hj
    · rename_i e
      simp only [Option.some.injEq] at hj; subst hj; subst e
      have hv : Act.tau a i = v := (h.s i _ hi).1
      obtain ⟨xs, h1, h2, h3⟩ := h.r n _ hn
      obtain ⟨ad, cap, e1, h4, h5, h6⟩ := row_shape h1
      simp only [Anc.v] at e1
      show (PV.sl R l).p (Act.tau a i) w _
      rw [hv, e1]
      refine ⟨ad, cap, rfl, h4, h5, ?_⟩
      rcases h6 with h6 | ⟨b, rfl, h7, h8⟩
      · exact .inl (List.eq_nil_of_length_eq_zero h6)
      · have hb : F n b := (h3 b).2 h7
        refine .inr ⟨b, 0, xs, rfl, ?_, h.wf.bd n b hb, h8, PVs.mono hev h2⟩
        rintro ⟨m, hm⟩
        by_cases e2 : m = n
        · simp only [e2, if_true] at hm
        · simp only [e2, if_false] at hm
          exact e2 (h.wf.dis m n b hm hb)
    · exact SF.mono hev (fun _ _ => rfl) (h.s j s hj)
  · rw [look_cons] at hm
    split at hm
    · rename_i e
      simp only [Option.some.injEq] at hm; subst hm; subst e
      intro b hb
      simp only [if_true] at hb
    · rename_i e
      have e2 : ¬ m = n := fun h => e h.symm
      simp only [e2, if_false]
      exact RS.mono hev (fun _ _ => rfl) (fun _ _ => rfl) (h.r m r hm)
  · by_cases e1 : m = n
    · simp only [e1, if_true] at hm
    · simp only [e1, if_false] at hm
      obtain ⟨r, hr⟩ := h.em m b hm
      exact ⟨r, by rw [look_cons, if_neg (fun h => e1 h.symm)]; exact hr⟩
end
end Go.Gm

namespace Go.Gm
set_option linter.unusedVariables false
set_option linter.unusedSimpArgs false

abbrev PV.bs (l : List UInt8) : PV := .str ⟨l.toArray⟩
section
variable {P : Program} {d : Option Nat} {t t' ty : TypeId} {pos : String} {af : Array Edge} {g : Option (Nat × Bool)} {x y z z' : Operand} {ps qs rs : List (Nat × SF)} {l l' : List UInt8} {k k' : IntKind} {i j : Int}

theorem o_shr {m n : Int} (hx : Opd x ps (.pv (.int k m))) (hy : Opd y qs (.pv (.int k' n))) (h : 0 ≤ n) : OpC P ⟨d, .binOp .shr t x y t', ty, pos, af, g⟩ ⟨ps ++ qs, [], .pv (.int k (m.fdiv (2 ^ min n.toNat k.bits))), []⟩ :=
  OpC.pure fun a w yy hp => by
    have e1 := (hx a w yy hp.left).1
    have e2 := (hy a w yy hp.right).1
    have hm := (hx a w yy hp.left).2
    have h' : ¬ n < 0 := by omega
    refine ⟨.int k (m.fdiv (2 ^ min n.toNat k.bits)), by simp [execOp, e1, e2, eqGuard, binOp, Op.shift, h'], fun _ _ => ⟨rfl, ?_⟩⟩
    have hp2 : (0 : Int) < 2 ^ min n.toNat k.bits := Int.pow_pos (by decide)
    rw [Int.fdiv_eq_ediv_of_nonneg _ (Int.le_of_lt hp2)]
    have hk : k.min ≤ 0 := by cases k <;> decide
    have hk' : 0 ≤ k.max := by cases k <;> decide
    unfold inR at *
    have h1p : (1 : Int) ≤ 2 ^ min n.toNat k.bits := hp2
    constructor
    · by_cases h0 : 0 ≤ m
      · exact Int.le_trans hk (Int.ediv_nonneg h0 (Int.le_of_lt hp2))
      · have : m ≤ m / 2 ^ min n.toNat k.bits := by
          rw [Int.le_ediv_iff_mul_le hp2]
          have : m * 2 ^ min n.toNat k.bits ≤ m * 1 := Int.mul_le_mul_of_nonpos_left (by omega) h1p
          omega
        exact Int.le_trans hm.1 this
    · by_cases h0 : 0 ≤ m
      · exact Int.le_trans (Int.ediv_le_self _ h0) hm.2
      · have : m / 2 ^ min n.toNat k.bits < 0 := Int.ediv_neg_of_neg_of_pos (by omega) hp2
        omega
end
end Go.Gm

namespace Go.Gm
set_option linter.unusedVariables false
set_option linter.unusedSimpArgs false

section
variable {P : Program} {d : Option Nat} {t t' ty : TypeId} {pos : String} {af : Array Edge} {g : Option (Nat × Bool)} {x y z z' : Operand} {ps qs rs : List (Nat × SF)} {k k' : IntKind} {i j : Int} {a : Anc} {T : TypeId} {cells : List CF}

theorem unCF_map {α : Type} (f : α → PV) : ∀ (l : List α), unCF (l.map fun x => CF.pv (f x)) = l.flatMap fun x => [f x]
  | [] => rfl
  | x :: l => by simp [unCF, unCF_map f l]
end

section
variable {P : Program} {d : Option Nat} {t t' ty : TypeId} {pos : String} {af : Array Edge} {g : Option (Nat × Bool)} {x y z z' : Operand} {ps qs rs : List (Nat × SF)} {k k' : IntKind} {i j : Int} {T : TypeId} {α : Type} {f : α → PV} {l : List α} {u : Value}
end

section
variable {B : Base} {E : En} {a : Act} {w : World} {F : Fp}
/-- A block that is owned is only read from now on. -/
theorem Sat.giveRef {T : TypeId} {cells : List CF} {v : Value} (h : Sat B E a w F) (n i : Nat) (hn : look E.r n = some (.pt (.val v) T cells)) (hi : look E.s i = some (.pv (.is v))) (hk : okCF cells = true) :
    ∃ F', Sat B ⟨(i, .pv (.ref (unCF cells))) :: E.s, (n, RS.hp (HP.star [])) :: E.r⟩ a w F' := by
  have hle : ∀ b, U (fun m => if m = n then fun _ => False else F m) b → U F b := fun b ⟨m, hm⟩ => ⟨m, by
    by_cases e : m = n
    · simp only [e, if_true] at hm
    · simp only [e, if_false] at hm; exact hm⟩
  have hev := Ev.less w hle
  refine ⟨fun m => if m = n then fun _ => False else F m, ⟨fun m k b hm hk => ?_, fun m b hm => ?_⟩, h.ev.trans hev, h.n, h.df, fun j s hj => ?_, fun m r hm => ?_, fun m b hm => ?_⟩
  · by_cases e1 : m = n
    · simp only [e1, if_true] at hm
    · by_cases e2 : k = n
      · simp only [e2, if_true] at hk
      · simp only [e1, e2, if_false] at hm hk; exact h.wf.dis m k b hm hk
  · by_cases e1 : m = n
    · simp only [e1, if_true] at hm
    · simp only [e1, if_false] at hm; exact h.wf.bd m b hm
  · rw [look_cons] at hj
    split at hj
    · rename_i e
      simp only [Option.some.injEq] at hj; subst hj; subst e
      have hv : Act.tau a i = v := (h.s i _ hi).1
      obtain ⟨b, vs, e1, h1, h2, h3⟩ := h.r n _ hn
      simp only [Anc.v] at e1
      show (PV.ref (unCF cells)).p (Act.tau a i) w _
      rw [hv, e1]
      have hb : F n b := (h2 b).2 rfl
      refine ⟨b, 0, vs.toList, rfl, ?_, h.wf.bd n b hb, cellsAt.mk fun j v hj => ?_, PVs.mono hev (PVs.unCF hk h3)⟩
      · rintro ⟨m, hm⟩
        by_cases e2 : m = n
        · simp only [e2, if_true] at hm
        · simp only [e2, if_false] at hm
          exact e2 (h.wf.dis m n b hm hb)
      · simp only [World.cell?, h1]
        simpa using hj
    · exact SF.mono hev (fun _ _ => rfl) (h.s j s hj)
  · rw [look_cons] at hm
    split at hm
    · rename_i e
      simp only [Option.some.injEq] at hm; subst hm; subst e
      intro b hb
      simp only [if_true] at hb
    · rename_i e
      have e2 : ¬ m = n := fun h => e h.symm
      simp only [e2, if_false]
      exact RS.mono hev (fun _ _ => rfl) (fun _ _ => rfl) (h.r m r hm)
  · by_cases e1 : m = n
    · simp only [e1, if_true] at hm
    · simp only [e1, if_false] at hm
      obtain ⟨r, hr⟩ := h.em m b hm
      exact ⟨r, by rw [look_cons, if_neg (fun h => e1 h.symm)]; exact hr⟩
end

section
variable {P : Program} {d : Option Nat} {t t' ty : TypeId} {pos : String} {af : Array Edge} {g : Option (Nat × Bool)} {x y z z' : Operand} {ps qs rs : List (Nat × SF)} {k k' : IntKind} {i j : Int}
theorem Ent.bs {l l' : List UInt8} (h : l = l') : Ent (.pv (.bs l)) (.pv (.bs l')) := by subst h; exact Ent.refl
end
end Go.Gm

namespace Go.Gm
open Go.Lib
set_option linter.unusedVariables false
set_option linter.unusedSimpArgs false

section
variable {P : Program} {d : Option Nat} {t t' ty : TypeId} {pos : String} {af : Array Edge} {g : Option (Nat × Bool)} {x y z z' : Operand} {ps qs rs : List (Nat × SF)} {k k' : IntKind} {i j : Int} {T : TypeId} {cells : List CF} {v : Value}

end
end Go.Gm

namespace Go.Gm
open Go.ChangeShapes Go.WideShapes Go.ChangeAt Go.RowKit Go.Deep
set_option linter.unusedVariables false
set_option linter.unusedSimpArgs false

abbrev noY : Ys := fun _ => False

/-- Whoever reads a value of the type meets cells as R tells of some b. -/
def Reads (P : Program) (t : TypeId) {β : Type} (R : β → List PV) : Prop :=
  ∀ (H : Type) (enc : TypeId × Value → H) (w : World) (base : Nat) (sp : Nat → Bool) (held : Bool) (n : Nat) (cs : List Value) (x : DataW H × List MemPlace), DataW.trod enc P w base sp held n t cs = some x → ∃ b : β, PVs (R b) cs w noY

section
variable {P : Program} {t : TypeId}
theorem wf_inR {k : IntKind} {n : Int} (h : (Lit.int k n).wf = true) : inR k n := by simpa [Lit.wf, inR] using h
theorem reads_int {k : IntKind} (hu : P.underlying t = some (.int k)) : Reads P t (fun i : Int => [.int k i]) := fun H enc w base sp held n cs x h => by
  obtain ⟨i, rfl, _, hw⟩ := DataW.trod_int hu h
  exact ⟨i, ⟨rfl, rfl, wf_inR hw⟩, trivial⟩
theorem Reads.map {β γ : Type} {R : β → List PV} {R' : γ → List PV} (h : Reads P t R) (f : β → γ) (e : ∀ b, R b = R' (f b)) : Reads P t R' := fun H enc w base sp held n cs x hx => by
  obtain ⟨b, hb⟩ := h H enc w base sp held n cs x hx
  exact ⟨f b, by rw [← e b]; exact hb⟩

/-- Fields one by one, from a place on. -/
def ReadsF (P : Program) (fs : List Field) (off tot : Nat) {β : Type} (R : β → List PV) : Prop :=
  ∀ (H : Type) (enc : TypeId × Value → H) (w : World) (base : Nat) (sp : Nat → Bool) (held : Bool) (n : Nat) (cs : List Value), cs.length = tot →
    (∀ (i : Nat) (f : Field), fs[i]? = some f → ∃ x, DataW.trod enc P w base sp held n f.type ((cs.drop f.offset).take (P.cellsOf f.type)) = some x) → ∃ b : β, PVs (R b) (cs.drop off) w noY
theorem readsF_nil {tot : Nat} : ReadsF P [] tot tot (fun _ : Unit => []) := fun H enc w base sp held n cs hl _ => ⟨(), by rw [List.drop_of_length_le (by omega)]; trivial⟩
theorem readsF_cons {f : Field} {fs : List Field} {off k tot : Nat} {β γ : Type} {R : β → List PV} {R' : γ → List PV} (ho : Nat.beq f.offset off = true) (hk : Nat.beq (P.cellsOf f.type) k = true) (h : Reads P f.type R) (h' : ReadsF P fs (off + k) tot R') :
    ReadsF P (f :: fs) off tot (fun p : β × γ => R p.1 ++ R' p.2) := fun H enc w base sp held n cs hl hx => by
  obtain ⟨x, hf⟩ := hx 0 f rfl
  obtain ⟨b, hb⟩ := h H enc w base sp held n _ x hf
  obtain ⟨c, hc⟩ := h' H enc w base sp held n cs hl (fun i g hg => hx (i + 1) g (by simpa using hg))
  refine ⟨(b, c), ?_⟩
  have e1 := Nat.eq_of_beq_eq_true ho
  have e2 := Nat.eq_of_beq_eq_true hk
  rw [e1, e2] at hb
  have := PVs.append hb hc
  rwa [show cs.drop (off + k) = (cs.drop off).drop k by rw [List.drop_drop], List.take_append_drop] at this
theorem reads_struct {fs : List Field} {tot : Nat} {β : Type} {R : β → List PV} (hu : P.underlying t = some (.struct fs.toArray)) (hc : Nat.beq (P.cellsOf t) tot = true) (h : ReadsF P fs 0 tot R) : Reads P t R := fun H enc w base sp held n cs x hx => by
  obtain ⟨xs, m, rfl, _, hl, hls, hf⟩ := DataW.trod_struct hu hx
  have := h H enc w base sp held m cs (by rw [hl]; exact Nat.eq_of_beq_eq_true hc) (fun i f hi => by
    have h1 := hf i f (by simpa using hi)
    have hi' : i < xs.length := by
      rw [hls]
      have := (List.getElem?_eq_some_iff.1 hi).1
      simpa using this
    exact ⟨xs[i], by rw [h1]; simp [hi']⟩)
  simpa using this

theorem cells_at {w : World} {base n : Nat} {a : Addr} {cs : List Value} (h : w.cells? base a n = some cs) : cs.length = n ∧ cellsAt w a.block a.off cs ∧ (0 < n → a.spot = none) := by
  obtain ⟨_, hl, hc⟩ := World.cells?_some h
  have hsp : 0 < n → a.spot = none := fun h0 => by
    have h1 := hc 0 h0
    simp only [Addr.add, if_true] at h1
    have : (w.cell? a).isSome = true := by rw [h1]; simp [List.getElem?_eq_getElem (show 0 < cs.length by omega)]
    unfold World.cell? at this
    split at this
    · split at this
      · cases this
      · rename_i hh; simpa using hh
    · cases this
  refine ⟨hl, cellsAt.mk fun j v hj => ?_, hsp⟩
  have hjl : j < n := by rw [← hl]; exact (List.getElem?_eq_some_iff.1 hj).1
  have h1 := hc j hjl
  rw [hj] at h1
  have e : a.add j = ⟨a.block, a.off + j, none⟩ := by
    unfold Addr.add
    by_cases h0 : j = 0
    · subst h0
      have := hsp hjl
      cases a; simp_all
    · simp [h0]
  rw [← e]; exact h1

theorem reads_slice {e : TypeId} {β : Type} {R : β → List PV} (hu : P.underlying t = some (.slice e)) (hc : Nat.blt 0 (P.cellsOf e) = true) (h : Reads P e R) : Reads P t (fun l : List β => [.sl R l]) := fun H enc w base sp held n cs x hx => by
  have hpos : 0 < P.cellsOf e := by simpa [Nat.blt_eq] using hc
  rcases open_slice hu hx with ⟨rfl, _⟩ | ⟨a, len, cap, m, k, D, Pl, rfl, _, hl, hm, hmm, _, hel⟩
  · exact ⟨[], ⟨rfl, none, 0, rfl, Nat.le_refl _, Nat.zero_le _, .inl rfl⟩, trivial⟩
  · have hle : len ≤ m := by rw [hmm]; split <;> omega
    have key : ∀ j, j ≤ len → ∃ (l : List β) (vs : List Value), l.length = j ∧ vs.length = j * P.cellsOf e ∧ cellsAt w a.block a.off vs ∧ PVs (l.flatMap R) vs w noY := by
      intro j
      induction j with
      | zero => intro _; exact ⟨[], [], rfl, by simp, trivial, trivial⟩
      | succ j ih =>
        intro hj
        obtain ⟨l, vs, h1, h2, h3, h4⟩ := ih (by omega)
        obtain ⟨cs', h5, h6⟩ := hel j (by omega)
        obtain ⟨b, hb⟩ := h H enc w base sp held k cs' _ h6
        obtain ⟨h7, h8, _⟩ := cells_at h5
        refine ⟨l ++ [b], vs ++ cs', by simp [h1], by rw [List.length_append, h2, h7, Nat.succ_mul], cellsAt.append h3 ?_, ?_⟩
        · have e1 : (a.add (j * P.cellsOf e)).block = a.block := by unfold Addr.add; split <;> rfl
          have e2 : (a.add (j * P.cellsOf e)).off = a.off + j * P.cellsOf e := by unfold Addr.add; split <;> simp_all
          rw [e1, e2] at h8
          rw [h2]; exact h8
        · rw [List.flatMap_append]
          exact PVs.append h4 (by simpa using hb)
    obtain ⟨l, vs, h1, h2, h3, h4⟩ := key len (Nat.le_refl _)
    refine ⟨l, ⟨rfl, some a, cap, by rw [h1], by omega, hm, ?_⟩, trivial⟩
    by_cases h0 : len = 0
    · exact .inl (List.eq_nil_of_length_eq_zero (by omega))
    · right
      obtain ⟨cs', h5, h6⟩ := hel 0 (by omega)
      have hs := (cells_at h5).2.2 hpos
      have hspot : a.spot = none := by simpa [Addr.add] using hs
      have hlen : 0 < vs.length := by rw [h2]; exact Nat.mul_pos (by omega) hpos
      refine ⟨a.block, a.off, vs, by cases a; simp_all, fun h => h, ?_, h3, h4⟩
      match vs, hlen, h3 with
      | v :: vs, _, h3 => exact cellsAt.lt h3

/-- Whoever reads an argument of the type. -/
def ArgR (P : Program) (t : TypeId) {β : Type} (A : β → PV) : Prop :=
  ∀ (H : Type) (enc : TypeId × Value → H) (w : World) (base : Nat) (sp : Nat → Bool) (held : Bool) (r : Reach) (b0 : Nat) (v : Value) (d : DataW H) (ps : List MemPlace), Value.okWide P w r b0 t v → DataW.Trod enc P w base sp held t v d ps → ∃ b : β, (A b).p v w noY
def oneType (P : Program) (t : TypeId) : Bool := match P.underlying t with
  | some (.int _) => true
  | some .bool => true
  | some .string => true
  | some (.slice _) => true
  | _ => false
theorem one_cells {w : World} {r : Reach} {b0 : Nat} {v : Value} (ht : oneType P t = true) (h : Value.okWide P w r b0 t v) : v.cells.toList = [v] := by
  cases hu : P.underlying t with
  | none => simp [oneType, hu] at ht
  | some d =>
    cases d <;> simp [oneType, hu] at ht <;> simp only [Value.okWide, hu, Cell.okWide] at h <;> (unfold Cell.ok at h) <;> simp only [hu] at h <;> cases v <;> first | rfl | (exact h.elim)
theorem argR_one {β : Type} {A : β → PV} (ht : oneType P t = true) (h : Reads P t (fun b => [A b])) : ArgR P t A := fun H enc w base sp held r b0 v d ps ho ⟨n, hn⟩ => by
  rw [one_cells ht ho] at hn
  obtain ⟨b, hb⟩ := h H enc w base sp held n _ _ hn
  exact ⟨b, hb.1.2⟩
def ArgsR (P : Program) (ts : List TypeId) {β : Type} (AA : β → List PV) : Prop :=
  ∀ (H : Type) (enc : TypeId × Value → H) (w : World) (base : Nat) (sp : Nat → Bool) (held : Bool) (r : Reach) (b0 : Nat) (vs : List Value) (ds : List (DataW H)) (ps : List MemPlace), (∀ (j : Nat) t v, ts[j]? = some t → vs[j]? = some v → Value.okWide P w r b0 t v) →
    DataW.TrodAll enc P w base sp held ts vs ds ps → ∃ b : β, PVt (AA b) vs w noY
theorem argsR_nil : ArgsR P [] (fun _ : Unit => []) := fun H enc w base sp held r b0 vs ds ps _ h => by
  obtain ⟨rfl, rfl, rfl⟩ := trodAll_nil h
  exact ⟨(), trivial⟩
theorem argsR_cons {ts : List TypeId} {β γ : Type} {A : β → PV} {AA : γ → List PV} (h : ArgR P t A) (h' : ArgsR P ts AA) : ArgsR P (t :: ts) (fun p : β × γ => A p.1 :: AA p.2) := fun H enc w base sp held r b0 vs ds ps ho hd => by
  obtain ⟨v, vs', d, ds', p, q, rfl, rfl, rfl, h1, h2⟩ := trodAll_cons hd
  obtain ⟨b, hb⟩ := h H enc w base sp held r b0 v d p (ho 0 t v rfl rfl) h1
  obtain ⟨c, hc⟩ := h' H enc w base sp held r b0 vs' ds' q (fun j t v h3 h4 => ho (j + 1) t v (by simpa using h3) (by simpa using h4)) h2
  exact ⟨(b, c), hb, hc⟩

theorem trodAll_len {H : Type} {enc : TypeId × Value → H} {w : World} {base : Nat} {sp : Nat → Bool} {held : Bool} : ∀ {ts : List TypeId} {vs : List Value} {ds : List (DataW H)} {ps : List MemPlace}, DataW.TrodAll enc P w base sp held ts vs ds ps → ds.length = ts.length
  | [], vs, ds, ps, h => by obtain ⟨rfl, rfl, rfl⟩ := trodAll_nil h; rfl
  | t :: ts, vs, ds, ps, h => by
    obtain ⟨v, vs', d, ds', p, q, rfl, rfl, rfl, h1, h2⟩ := trodAll_cons h
    simp [trodAll_len h2]
theorem trodAll_again {H : Type} {enc : TypeId × Value → H} {W W' : World} {sp' : Nat → Bool} (hl : laidOutB P = true) : ∀ {ts : List TypeId} {vs : List Value} {ds : List (DataW H)} {ps : List MemPlace}, (∀ t ∈ ts, P.readableRec t = true ∧ t < P.types.size) →
    DataW.TrodAll enc P W 0 (fun _ => true) true ts vs ds ps → (∀ p ∈ ps, W.sameAt W' p) → (∀ p ∈ ps, sp' p.block = true) → DataW.TrodAll enc P W' 0 sp' true ts vs ds ps
  | [], vs, ds, ps, _, h, _, _ => by obtain ⟨rfl, rfl, rfl⟩ := trodAll_nil h; exact trodAll_mk0
  | t :: ts, vs, ds, ps, ht, h, h1, h2 => by
    obtain ⟨v, vs', d, ds', p, q, rfl, rfl, rfl, h3, h4⟩ := trodAll_cons h
    refine trodAll_cons_mk (WideElems.Trod_stays hl (ht t (by simp)).1 (ht t (by simp)).2 h3 (fun p hp => h1 p (List.mem_append_left _ hp)) (fun p hp => h2 p (List.mem_append_left _ hp)))
      (trodAll_again hl (fun t ht' => ht t (by simp [ht'])) h4 (fun p hp => h1 p (List.mem_append_right _ hp)) (fun p hp => h2 p (List.mem_append_right _ hp)))

/-- The row's answer of a law that says 'true' and lets the input read as it did. -/
theorem law_contract {f : FuncId} {fn : Func} {s : ChangeSpec} {β : Type} {AA : β → List PV} {tb : TypeId} (hl : laidOutB P = true) (hts : ∀ t ∈ fn.params.toList, P.readableRec t = true ∧ t < P.types.size) {ts : List TypeId} (hA0 : ArgsR P ts AA) (hp : fn.params.toList = ts) (hF : ∀ b, FnP P f (AA b) (.bool true))
    (hv : s.vars = []) (hr : fn.resultTypes = #[tb]) (hb : P.underlying tb = some .bool) (hs : ∀ (H : Type) (ds : List (DataW H)), ds.length = fn.params.toList.length → s.fn H ds = { results := [.lit (.bool true)], args := ds, vars := [] })
    {apart fresh handsOn again : Bool} (H : Type) (enc : TypeId × Value → H) (W : World) (base : Nat) (args : Array Value) (ds gs : List (DataW H)) (before : List MemPlace)
    (hval : ∀ (j : Nat) t v, fn.params[j]? = some t → args[j]? = some v → Value.okWide P W .any base t v) (hW : DataW.Whole enc P fn.params.toList s.vars apart W args.toList ds gs before) :
    Calls P f args W fun e W' => ∃ v, e = .returned v ∧ s.post enc P fn apart fresh handsOn again W args v W' := by
  have hA : ArgsR P fn.params.toList AA := by rw [hp]; exact hA0
  have hW' := hW
  obtain ⟨p, q, hd, hg, hbe, hz, hn⟩ := hW
  have hg' : DataW.TrodVars enc P W (fun _ => true) [] gs q := by rw [← hv]; exact hg
  obtain ⟨hgs, hqs⟩ := trodVars_none hg'
  subst hgs; subst hqs
  obtain ⟨b, hargs⟩ := hA H enc W 0 _ true .any base args.toList ds p (fun j t v h1 h2 => hval j t v (by simpa using h1) (by simpa using h2)) hd
  have hlen := trodAll_len hd
  have hcall := hF b W noY args.toList (fun b h => h.elim) hargs
  rw [Array.toArray_toList] at hcall
  refine hcall.mono fun e W' h => ?_
  obtain ⟨v, rfl, hq, hbel⟩ := h
  have hv' : v = .bool true := hq
  subst hv'
  have hlt : ∀ p ∈ before, p.block < W.heap.size := fun p hp => hW'.lt p hp
  have hsp := hs H (ds ++ []) (by rw [List.append_nil]; exact hlen)
  refine ⟨_, rfl, ?_⟩
  have hps : before = p := by rw [hbe, List.append_nil]
  have hagain : ∀ sp : Nat → Bool, (∀ x ∈ before, sp x.block = true) → DataW.TrodAll enc P W' 0 sp true fn.params.toList args.toList (s.fn H (ds ++ [])).args p := fun sp h => by
    rw [hsp, List.append_nil]
    exact trodAll_again hl hts hd (fun x hx => hbel.same (hlt x (by rw [hps]; exact hx))) (fun x hx => h x (by rw [hps]; exact hx))
  have hres : ∀ (c : Nat) (sp : Nat → Bool) (hd : Bool), DataW.TrodAll enc P W' c sp hd fn.resultTypes.toList ((Value.bool true).resultList fn.resultTypes.size) (s.fn H (ds ++ [])).results [] := fun c sp hd => by
    rw [hsp, hr]
    exact trodAll_cons_mk (shut_bool hb _) trodAll_mk0
  have hvars : ∀ sp : Nat → Bool, DataW.TrodVars enc P W' sp s.vars (s.fn H (ds ++ [])).vars [] := fun sp => by rw [hsp, hv]; rfl
  have hold : ∀ x ∈ before, (fun b => decide (b < W.heap.size)) x.block = true := fun x hx => by simpa using hlt x hx
  refine ⟨ds, [], before, [], p, [], hW', hres _ _ _, hagain _ hold, hvars _, World.keptBut_mono (fun x hx => ⟨hx, ?_⟩) (hbel.frame _), fun _ => ?_⟩
  · rw [hps] at hx; exact Or.inr (by simpa using hx)
  · refine ⟨ok_one hr rfl (okWide_bool_mk hb _), _, _, ([] ++ p) ++ [], ⟨[] ++ p, [], trodAll_append (hagain _ (fun _ _ => rfl)) (hres _ _ _), hvars _, rfl, ?_, ?_⟩, ?_⟩
    · intro c off hp
      have hp' : MemPlace.cell c off ∈ before := by rw [hps]; simpa using hp
      rw [hbel.frozen (p := ⟨c, off, none⟩) (hlt _ hp')]
      exact hz c off hp'
    · intro ha
      have := hn ha
      rw [hps] at this
      simpa using this
    · intro x hx _
      rw [hps]
      simpa using hx
end
end Go.Gm

namespace Go.Gm
set_option linter.unusedVariables false
set_option linter.unusedSimpArgs false
theorem Ent.arrSl {α : Type} {R : α → List PV} {l : List α} (h : Nat.ble l.length maxLen = true) : Ent (.pv (.arr l.length (l.flatMap R))) (.pv (.sl R l)) := fun τ w y v ⟨b, vs, e, h1, h2, h3, h4⟩ =>
  ⟨some ⟨b, 0, none⟩, l.length, e, Nat.le_refl _, Nat.le_of_ble_eq_true h, .inr ⟨b, 0, vs, rfl, h1, h2, h3, h4⟩⟩
end Go.Gm

namespace Go.Gm
set_option linter.unusedVariables false
set_option linter.unusedSimpArgs false
section
variable {P : Program} {t ty : TypeId} {pos : String} {af : Array Edge} {g : Option (Nat × Bool)} {x y : Operand} {ps qs : List (Nat × SF)} {α : Type} {R : α → List PV} {l : List α}
theorem PVs.setR {sz : Nat} (hR : ∀ x, (R x).length = sz) {w yy} {v : α} {us : List Value} (hu : PVs (R v) us w yy) : ∀ {l : List α} {xs : List Value} (i : Nat), i < l.length → PVs (l.flatMap R) xs w yy → PVs ((l.set i v).flatMap R) (xs.take (i * sz) ++ us ++ xs.drop (i * sz + sz)) w yy
  | [], xs, i, h, _ => by simp at h
  | z :: l, xs, 0, _, h => by
    rw [List.flatMap_cons] at h
    obtain ⟨us1, us2, rfl, h1, h2⟩ := PVs.split h
    have hl : us1.length = sz := by rw [← h1.len, hR]
    rw [List.set_cons_zero, List.flatMap_cons, Nat.zero_mul, List.take_zero, List.nil_append, Nat.zero_add, ← hl, List.drop_left]
    exact PVs.append hu h2
  | z :: l, xs, i + 1, hi, h => by
    rw [List.flatMap_cons] at h
    obtain ⟨us1, us2, rfl, h1, h2⟩ := PVs.split h
    have hl : us1.length = sz := by rw [← h1.len, hR]
    have ih := PVs.setR hR hu (l := l) i (by simpa using hi) h2
    rw [List.set_cons_succ, List.flatMap_cons, Nat.succ_mul, show i * sz + sz = us1.length + i * sz by omega, show us1.length + i * sz + sz = us1.length + (i * sz + sz) by omega, List.take_length_add_append, List.drop_length_add_append, List.append_assoc, List.append_assoc]
    exact PVs.append h1 (by rw [← List.append_assoc]; exact ih)
theorem take_mid {cur us : List Value} {k sz N : Nat} (hk : k + sz ≤ N) (hu : us.length = sz) (hc : N ≤ cur.length) : (cur.take k ++ us ++ cur.drop (k + us.length)).take N = (cur.take N).take k ++ us ++ (cur.take N).drop (k + sz) := by
  rw [List.take_take, Nat.min_eq_left (by omega), hu]
  have h1 : (cur.take k ++ us).length = k + sz := by rw [List.length_append, List.length_take, hu]; omega
  rw [List.take_append, h1, List.take_of_length_le (by omega), List.drop_take]
end

section
variable {P : Program} {ty : TypeId} {pos : String} {af : Array Edge} {g : Option (Nat × Bool)} {ps : List (Nat × SF)}
end

section
variable {P : Program} {d : Option Nat} {t t' ty : TypeId} {pos : String} {af : Array Edge} {g : Option (Nat × Bool)} {x : Operand} {ps : List (Nat × SF)} {α : Type} {R : α → List PV} {l : List α}
end
end Go.Gm

namespace Go.Gm
set_option linter.unusedVariables false
set_option linter.unusedSimpArgs false
section
variable {P : Program} {d : Option Nat} {t ty : TypeId} {pos : String} {af : Array Edge} {g : Option (Nat × Bool)} {x x2 x3 : Operand} {ps qs rs : List (Nat × SF)}
def drop (F : Fp) (n : Nat) : Fp := fun m => if m = n then fun _ => False else F m
/-- Arguments, of which the first is lent. -/
def ArgsLent (args : Array Operand) (ps : List (Nat × SF)) (an : Anc) (l : List PV) (avs : List PV) : Prop :=
  ∀ (a : Act) w y y', Hps ps (Act.tau a) w y → (∀ b, y' b → y b) → (∀ b, an.v (Act.tau a) = .pointer (some ⟨b, 0, none⟩) → (PV.ref l).p (.pointer (some ⟨b, 0, none⟩)) w y') → (∃ b, an.v (Act.tau a) = .pointer (some ⟨b, 0, none⟩)) →
    ∃ vs : List Value, args.map a.eval = vs.toArray ∧ PVt avs vs w y'
theorem ArgsLent.one {an : Anc} {l : List PV} (h : AdrOk x ps an 0) : ArgsLent #[x] ps an l [.ref l] := fun a w y y' hp hle hr hb => by
  obtain ⟨b, e⟩ := hb
  refine ⟨[a.eval x], by simp, ?_, trivial⟩
  rw [h a w y hp b e]
  exact hr b e
theorem ArgsLent.two {an : Anc} {l : List PV} {p2 : PV} (h : AdrOk x ps an 0) (h2 : Opd x2 qs (.pv p2)) : ArgsLent #[x, x2] (ps ++ qs) an l [.ref l, p2] := fun a w y y' hp hle hr hb => by
  obtain ⟨b, e⟩ := hb
  refine ⟨[a.eval x, a.eval x2], by simp, ?_, p2.mono (Ev.less w hle) (h2 a w y hp.right), trivial⟩
  rw [h a w y hp.left b e]
  exact hr b e
theorem ArgsLent.three {an : Anc} {l : List PV} {p2 p3 : PV} (h : AdrOk x ps an 0) (h2 : Opd x2 qs (.pv p2)) (h3 : Opd x3 rs (.pv p3)) : ArgsLent #[x, x2, x3] (ps ++ (qs ++ rs)) an l [.ref l, p2, p3] := fun a w y y' hp hle hr hb => by
  obtain ⟨b, e⟩ := hb
  refine ⟨[a.eval x, a.eval x2, a.eval x3], by simp, ?_, p2.mono (Ev.less w hle) (h2 a w y hp.right.left), p3.mono (Ev.less w hle) (h3 a w y hp.right.right), trivial⟩
  rw [h a w y hp.left b e]
  exact hr b e
end
/-- Facts that say less. -/
def PVLe (p q : PV) : Prop := ∀ v w y, p.p v w y → q.p v w y
def PVsLe : List PV → List PV → Prop
  | [], [] => True
  | p :: ps, q :: qs => PVLe p q ∧ PVsLe ps qs
  | _, _ => False
theorem PVLe.refl {p : PV} : PVLe p p := fun _ _ _ h => h
theorem PVLe.nilSl {α : Type} {R : α → List PV} : PVLe (.is (.slice none 0 0)) (.sl R []) := fun v w y h => Ent.nilSl (fun _ => v) w y v h
theorem PVLe.of {p q : PV} (h : p = q) : PVLe p q := by subst h; exact PVLe.refl
theorem PVs.le {w y} : ∀ {ps qs : List PV} {vs : List Value}, PVsLe ps qs → PVs ps vs w y → PVs qs vs w y
  | [], [], [], _, _ => trivial
  | p :: ps, q :: qs, v :: vs, h, k => ⟨⟨k.1.1, h.1 _ _ _ k.1.2⟩, PVs.le h.2 k.2⟩
  | [], [], _ :: _, _, k => k.elim
  | _ :: _, _ :: _, [], _, k => k.elim
  | [], _ :: _, _, h, _ => h.elim
  | _ :: _, [], _, h, _ => h.elim
theorem PVLe.arrSl {α : Type} {R : α → List PV} {l : List PV} {l' : List α} (h : Nat.ble l'.length maxLen = true) (e : PVsLe l (l'.flatMap R)) : PVLe (.arr l'.length l) (.sl R l') := fun v w y ⟨b, vs, e1, h1, h2, h3, h4⟩ =>
  Ent.arrSl h (fun _ => v) w y v ⟨b, vs, e1, h1, h2, h3, PVs.le e h4⟩
theorem Tells.none : Tells [] (.tup []) := fun τ w y vs hs => by
  match vs, hs with
  | [], _ => exact ⟨[], rfl, trivial⟩
section
variable {B : Base} {E : En} {a : Act} {w : World} {F : Fp}
end
section
variable {P : Program} {d : Option Nat} {ty : TypeId} {pos : String} {af : Array Edge} {g : Option (Nat × Bool)} {ps : List (Nat × SF)}
end
section
variable {P : Program} {t ty : TypeId} {pos : String} {af : Array Edge} {g : Option (Nat × Bool)} {x y : Operand} {ps qs : List (Nat × SF)} {α : Type} {R : α → List PV} {l : List α}
theorem o_store_row1 {T sz i : Nat} {a : Anc} {v : α} {p : PV} (n : Nat) (hx : Opd x ps (.adr a (i * sz))) (hR : ∀ x, (R x).length = sz) (hi : i < l.length) (hy : Opd y qs (.pv p)) (hv : R v = [p]) (h1' : ∀ v w yy, p.p v w yy → v.oneCell' = true) (hs : (P.info? t).map (·.size) = some sz) :
    OpC P ⟨none, .store t x y, ty, pos, af, g⟩ ⟨ps ++ qs, [(n, .ob a (rowH T sz R l))], .pv .any, [(n, .ob a (rowH T sz R (l.set i v)))]⟩ := fun act w F K Q hw hp hr ht => by
  obtain ⟨xs, h1, h2, h3⟩ := hr (n, .ob a (rowH T sz R l)) (by simp)
  have ex0 : act.eval x = shift (i * sz) (a.v (Act.tau act)) := hx act w (U F) hp.left
  have hpv := hy act w (U F) hp.right
  have ho := h1' _ _ _ hpv
  obtain ⟨us, eu, hu⟩ : ∃ us : List Value, (act.eval y).cells = us.toArray ∧ PVs (R v) us w (U F) := by
    refine ⟨[act.eval y], ?_, by rw [hv]; exact ⟨⟨ho, hpv⟩, trivial⟩⟩
    cases e : act.eval y <;> rw [e] at ho <;> first | rfl | simp [Value.oneCell'] at ho
  have hul : us.length = sz := by rw [← hu.len, hR]
  have hxl := h1.1
  rcases h1.2 with ⟨_, h0⟩ | ⟨b, cap, cur, ev, _, hg, hnc, hcm, hcs, htake⟩
  · omega
  · have ex : act.eval x = .pointer (some ⟨b, i * sz, none⟩) := by rw [ex0, ev]; simp [shift]
    have hfit : i * sz + sz ≤ l.length * sz := by rw [← Nat.succ_mul]; exact Nat.mul_le_mul_right sz hi
    have hfit2 : l.length * sz ≤ cur.size := by rw [hcs]; exact Nat.mul_le_mul_right sz hnc
    have hst := run_storeCells_at P b (i * sz) T us 0 cur w hg (by omega) hu.one
    have hrun : (execOp act.eval ⟨none, .store t x y, ty, pos, af, g⟩).run P w = .ok .skip (w.setRow b (cur.toList.take (i * sz) ++ us ++ cur.toList.drop (i * sz + us.length)).toArray) := by
      simp [execOp, ex, Instr.storeAt, Instr.sureAddr, storeVar, run_sizeOf hs, eu, hul, hst]
    have hf : ∀ z, F n z ↔ z = b := fun z => by rw [h3 z, ev]; simp [Value.ownBlock, eq_comm]
    obtain ⟨g1, g2⟩ := set_block hw hg hf (cur.toList.take (i * sz) ++ us ++ cur.toList.drop (i * sz + us.length)).toArray
    simp only [Oper.wp, hrun, Oper.upon]
    refine ht undef _ F g1 g2 trivial ?_
    intro z hz
    simp only [List.mem_singleton] at hz
    subst hz
    have eτ : upd (Act.tau act) none undef = Act.tau act := by funext i; simp [upd]
    show RS.holds (upd (Act.tau act) none undef) _ _ _ _
    rw [eτ]
    refine ⟨xs.take (i * sz) ++ us ++ xs.drop (i * sz + sz), ⟨?_, .inr ⟨b, cap, _, by rw [List.length_set]; exact ev, Nat.zero_le _, setRow_heap w b cur _ T (0, 0) hg, by rw [List.length_set]; exact hnc, hcm, ?_, ?_⟩⟩, PVs.setR hR (PVs.mono g2.ev hu) i hi (PVs.mono g2.ev h2), h3⟩
    · rw [List.length_set, List.length_append, List.length_append, List.length_take, List.length_drop, hxl, hul]; omega
    · have : cur.toList.length = cur.size := by simp
      simp only [List.size_toArray, List.length_append, List.length_take, List.length_drop, this, hul]
      omega
    · rw [List.length_set]
      have := take_mid (cur := cur.toList) (us := us) (k := i * sz) (sz := sz) (N := l.length * sz) hfit hul (by simpa using hfit2)
      rw [htake] at this
      simpa using this
end
end Go.Gm

namespace Go.Gm
set_option linter.unusedVariables false
set_option linter.unusedSimpArgs false
section
variable {P : Program} {d : Option Nat} {t ty : TypeId} {pos : String} {af : Array Edge} {g : Option (Nat × Bool)} {x y : Operand} {ps qs : List (Nat × SF)}
theorem Args.four {x1 x2 x3 x4 : Operand} {ps1 ps2 ps3 ps4 : List (Nat × SF)} {p1 p2 p3 p4 : PV} (h1 : Opd x1 ps1 (.pv p1)) (h2 : Opd x2 ps2 (.pv p2)) (h3 : Opd x3 ps3 (.pv p3)) (h4 : Opd x4 ps4 (.pv p4)) :
    ∀ (a : Act) w y, Hps (ps1 ++ (ps2 ++ (ps3 ++ ps4))) (Act.tau a) w y → ∃ vs : List Value, (#[x1, x2, x3, x4] : Array Operand).map a.eval = vs.toArray ∧ PVt [p1, p2, p3, p4] vs w y :=
  fun a w y hp => ⟨[a.eval x1, a.eval x2, a.eval x3, a.eval x4], by simp, h1 a w y hp.left, h2 a w y hp.right.left, h3 a w y hp.right.right.left, h4 a w y hp.right.right.right, trivial⟩
theorem Ent.any {p : PV} : Ent (.pv p) (.pv .any) := fun _ _ _ _ _ => trivial
end
end Go.Gm

namespace Go.Gm
set_option linter.unusedVariables false
set_option linter.unusedSimpArgs false
theorem flat_len {α : Type} {R : α → List PV} {sz : Nat} (hR : ∀ x, (R x).length = sz) : ∀ l : List α, (l.flatMap R).length = l.length * sz
  | [] => by simp
  | x :: l => by rw [List.flatMap_cons, List.length_append, hR, flat_len hR l, List.length_cons, Nat.add_mul, Nat.one_mul, Nat.add_comm]
section
variable {P : Program} {d : Option Nat} {t ty : TypeId} {pos : String} {af : Array Edge} {g : Option (Nat × Bool)} {x y : Operand} {ps qs : List (Nat × SF)} {α : Type} {R : α → List PV}
/-- A slice written out, one's own. -/
theorem o_buildRow {e sz n d' : Nat} {zs : List Value} {r : List (Nat × Operand)} {l : List α} {cs : List CF} (m : Nat) (hu : P.underlying t = some (.slice e)) (hsz : (P.info? e).map (·.size) = some sz) (hz : P.zeros e = some zs) (hn : Nat.ble (n * sz) 1000 = true) (h0 : Nat.blt 0 (n * sz) = true) (hzl : zs.length = sz)
    {zz : List CF} (hzz : ((List.range (n * sz)).map fun i => zCF (zs.getD (i % sz) undef)) = zz)
    (hparts : Parts P ((List.range n).map fun i => (i * sz, sz)) r ps zz cs) (hl : cs = (l.flatMap R).map CF.pv) (hln : l.length = n) (hR : ∀ x, (R x).length = sz) :
    OpC P ⟨some d', .buildSlice t n r.toArray, ty, pos, af, g⟩ ⟨ps, [], .same d', [(m, .ob (.slot d') (rowH e sz R l))]⟩ := fun a w F K Q hw hp hr ht => by
  subst hl
  obtain ⟨z, h1, h2, h3⟩ := zeros_run hz
  have hn' := Nat.le_of_ble_eq_true hn
  have h0' : 0 < n * sz := by simpa [Nat.blt_eq] using h0
  have hsz0 : 0 < sz := Nat.pos_of_mul_pos_left h0'
  have hzs0 : CFs (Act.tau a) w (U F) zz ((List.range (n * sz)).map fun i => zs.getD (i % sz) undef) := by
    rw [← hzz]
    have : ∀ is : List Nat, CFs (Act.tau a) w (U F) (is.map fun i => zCF (zs.getD (i % sz) undef)) (is.map fun i => zs.getD (i % sz) undef) := by
      intro is
      induction is with
      | nil => trivial
      | cons i is ih =>
        refine ⟨?_, ih⟩
        have hlt : i % sz < zs.length := by rw [hzl]; exact Nat.mod_lt _ hsz0
        have hg : zs.getD (i % sz) undef = zs[i % sz] := by simp [hlt]
        have hok : zOk zs[i % sz] = true := (List.all_eq_true.1 h2) _ (List.getElem_mem hlt)
        have := zCFs (τ := Act.tau a) (w := w) (y := U F) (vs := [zs[i % sz]]) (by simp [hok])
        show (zs.getD (i % sz) undef).oneCell' = true ∧ CF.holds (Act.tau a) w (U F) (zCF (zs.getD (i % sz) undef)) (zs.getD (i % sz) undef)
        rw [hg]
        exact this.1
    exact this _
  obtain ⟨us, h4, h5⟩ := fill_run (place := fun i => some (i * sz, sz)) (fun i q h => by
    rw [List.getElem?_map] at h
    cases hr : (List.range n)[i]? with
    | none => rw [hr] at h; simp at h
    | some j =>
      rw [hr] at h
      have := (List.getElem?_eq_some_iff.1 hr).2
      simp at this h
      rw [← h, ← this]) hparts hp (((List.range (n * sz)).map fun i => zs.getD (i % sz) undef).toArray) (by simpa using hzs0)
  have e1 : (r.toArray.map fun (x : Nat × Operand) => (x.1, a.eval x.2)) = (r.map fun x => (x.1, a.eval x.2)).toArray := by simp
  have e2 : ((Array.range (n * sz)).map fun x => z.cells[x % z.cells.size]!) = ((List.range (n * sz)).map fun i => zs.getD (i % sz) undef).toArray := by
    rw [h1]
    apply Array.ext
    · simp
    · intro i hi1 hi2
      have hlt : i % sz < zs.length := by rw [hzl]; exact Nat.mod_lt _ hsz0
      simp [hzl, List.getElem?_eq_getElem hlt]
  have hrun : (execOp a.eval ⟨some d', .buildSlice t n r.toArray, ty, pos, af, g⟩).run P w = .ok (.value (.slice (some ⟨w.heap.size, 0, none⟩) n n)) (w.alloc (.cells us e)) := by
    have hbig : ¬ (n * sz > 2 ^ 24) := by omega
    have hne : ¬ (n * sz = 0) := by omega
    simp only [execOp, Instr.buildSlice, e1, Sem.run_bind, run_underlying hu, Result.andThen_ok, run_sizeOf hsz, if_neg hbig, if_neg hne, h3, Sem.run_pure, e2, h4, newRow, run_newObj_alloc]
  obtain ⟨g1, g2⟩ := new_block hw m (.cells us e)
  have hpv : PVs (l.flatMap R) us.toList (w.alloc (.cells us e)) (U fun k => if k = m then fun b => b = w.heap.size else F k) := PVs.mono g2.ev (PVs.of_cfs h5)
  have hlen : us.size = n * sz := by
    have := hpv.len
    rw [flat_len hR, hln] at this
    simpa using this.symm
  simp only [Oper.wp, hrun, Oper.upon]
  refine ht _ _ _ g1 g2 ⟨by simp [upd], rfl⟩ ?_
  intro q hq
  simp only [List.mem_singleton] at hq
  subst hq
  have hτ : upd (Act.tau a) (some d') (.slice (some ⟨w.heap.size, 0, none⟩) n n) d' = .slice (some ⟨w.heap.size, 0, none⟩) n n := by simp [upd]
  refine ⟨us.toList, ⟨by simp [hlen, hln], .inr ⟨w.heap.size, n, us, ?_, Nat.zero_le _, heap_alloc_new w _, by omega, ?_, hlen, ?_⟩⟩, hpv, fun b => ?_⟩
  · simp only [Anc.v, hτ, hln]
  · have : n ≤ n * sz := Nat.le_mul_of_pos_right n hsz0
    unfold maxLen
    omega
  · rw [hln]; exact List.take_of_length_le (by simp [hlen])
  · simp [Anc.v, hτ, Value.ownBlock, eq_comm]
end
end Go.Gm
