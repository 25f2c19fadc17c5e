/- Structs held against one another; loops; ranges of numbers. No condition. -/
import Derived.Test.YtfldilhddeabeaaDoorLibM
namespace Go.Gm
set_option linter.unusedVariables false
set_option linter.unusedSimpArgs false

/-- Cells held against cells, one by one; 'true' marks an integer, 'false' a bool. -/
inductive EqCs : List Bool → List CF → List CF → Bool → Prop
  | nil : EqCs [] [] [] true
  | int {k : IntKind} {a b : Int} {ks : List Bool} {cs ds : List CF} {r : Bool} (h : EqCs ks cs ds r) : EqCs (true :: ks) (.pv (.int k a) :: cs) (.pv (.int k b) :: ds) (decide (a = b) && r)
  | bool {a b : Bool} {ks : List Bool} {cs ds : List CF} {r : Bool} (h : EqCs ks cs ds r) : EqCs (false :: ks) (.pv (.bool a) :: cs) (.pv (.bool b) :: ds) ((a == b) && r)

/-- A struct whose fields are a cell each, of integers or bools. -/
def flatFs (P : Program) : List Field → Nat → List Bool → Bool
  | [], _, [] => true
  | f :: fs, k, b :: ks => (f.name != "_") && Nat.beq f.offset k && (match P.underlying f.type with | some (.int _) => b | some .bool => !b | _ => false) && flatFs P fs (k + 1) ks
  | _, _, _ => false
def _root_.Go.Program.flatS (P : Program) (t : TypeId) (ks : List Bool) : Bool := match P.underlying t with
  | some (.struct fs) => flatFs P fs.toList 0 ks && !P.stoodInHeld t && !P.eqGuardType P.depth t
  | _ => false

theorem part_run {P : Program} {w : World} {f : Field} {k : Nat} (hk : f.offset = k) (h3 : P.aggB f.type = some false) {zs : Array Value} {v : Value} {vs : List Value} (hz : zs.toList.drop k = v :: vs) : (part f.type zs f.offset).run P w = .ok v w := by
  have hg : zs[k]? = some v := by
    have := congrArg List.head? hz
    simpa [List.head?_drop] using this
  simp [part, run_isAgg h3, hk, hg]
theorem drop_next {zs : Array Value} {k : Nat} {v : Value} {vs : List Value} (hz : zs.toList.drop k = v :: vs) : zs.toList.drop (k + 1) = vs := by
  have := congrArg List.tail hz
  simpa [List.tail_drop] using this

theorem eqFields_run {P : Program} {d : Nat} {w : World} {y : Ys} {τ : Tau} {xs ys : Array Value} : ∀ {fs : List Field} {k : Nat} {ks : List Bool} {cs ds : List CF} {r : Bool}, flatFs P fs k ks = true → CFs τ w y cs (xs.toList.drop k) → CFs τ w y ds (ys.toList.drop k) → EqCs ks cs ds r →
    (Op.eqFields (d + 1) xs ys fs).run P w = .ok r w
  | [], k, [], cs, ds, r, _, _, _, he => by
    cases he
    simp [Op.eqFields]
  | [], k, _ :: _, cs, ds, r, h, _, _, _ => by simp [flatFs] at h
  | _ :: _, k, [], cs, ds, r, h, _, _, _ => by simp [flatFs] at h
  | f :: fs, k, b :: ks, cs, ds, r, hf, hx, hy, he => by
    simp only [flatFs, Bool.and_eq_true] at hf
    obtain ⟨⟨⟨h1, h2⟩, h3⟩, h4⟩ := hf
    have hk : f.offset = k := Nat.eq_of_beq_eq_true h2
    have hn : f.name ≠ "_" := by simpa using h1
    have hag : P.aggB f.type = some false := by
      unfold Program.aggB
      cases hu : P.underlying f.type with
      | none => rw [hu] at h3; cases h3
      | some u => rw [hu] at h3; cases u <;> first | rfl | cases h3
    cases he with
    | @int kk a b ks cs ds r he =>
      cases ex : xs.toList.drop k with
      | nil => rw [ex] at hx; exact hx.elim
      | cons u us =>
        cases ey : ys.toList.drop k with
        | nil => rw [ey] at hy; exact hy.elim
        | cons v vs =>
          rw [ex] at hx
          rw [ey] at hy
          have e1 : u = .int kk a := hx.1.2.1
          have e2 : v = .int kk b := hy.1.2.1
          have ih := eqFields_run (d := d) (fs := fs) (k := k + 1) h4 (by rw [drop_next ex]; exact hx.2) (by rw [drop_next ey]; exact hy.2) he
          have heq : (Op.equalIn (d + 1) f.type u v).run P w = .ok (decide (a = b)) w := by
            subst e1; subst e2
            cases hu : P.underlying f.type with
            | none => rw [hu] at h3; cases h3
            | some t =>
              rw [hu] at h3
              cases t <;> first | cases h3 | skip
              rw [run_equalIn_int w d f.type kk _ a b hu, beq_dec]
          simp only [Op.eqFields]
          rw [if_pos hn]
          simp only [Sem.run_bind, part_run hk hag ex, part_run hk hag ey, Result.andThen_ok, heq]
          by_cases hab : a = b
          · simp [hab, ih]
          · simp [hab]
    | @bool a b ks cs ds r he =>
      cases ex : xs.toList.drop k with
      | nil => rw [ex] at hx; exact hx.elim
      | cons u us =>
        cases ey : ys.toList.drop k with
        | nil => rw [ey] at hy; exact hy.elim
        | cons v vs =>
          rw [ex] at hx
          rw [ey] at hy
          have e1 : u = .bool a := hx.1.2
          have e2 : v = .bool b := hy.1.2
          have ih := eqFields_run (d := d) (fs := fs) (k := k + 1) h4 (by rw [drop_next ex]; exact hx.2) (by rw [drop_next ey]; exact hy.2) he
          have heq : (Op.equalIn (d + 1) f.type u v).run P w = .ok (a == b) w := by
            subst e1; subst e2
            cases hu : P.underlying f.type with
            | none => rw [hu] at h3; cases h3
            | some t =>
              rw [hu] at h3
              cases t <;> first | cases h3 | skip
              rw [run_equalIn_bool' w d f.type a b hu]
          simp only [Op.eqFields]
          rw [if_pos hn]
          simp only [Sem.run_bind, part_run hk hag ex, part_run hk hag ey, Result.andThen_ok, heq]
          cases hab : (a == b)
          · simp
          · simp [ih]

section
variable {P : Program} {d : Option Nat} {ty : TypeId} {pos : String} {af : Array Edge} {g : Option (Nat × Bool)}
variable {x y : Operand} {ps qs : List (Nat × SF)} {t t' : TypeId} {cs ds : List CF} {r : Bool} {ks : List Bool}
theorem flat_open (h : P.flatS t ks = true) : P.underlying t = some (.struct (P.fieldsOf t)) ∧ flatFs P (P.fieldsOf t).toList 0 ks = true ∧ P.stoodInHeld t = false ∧ P.eqGuardType P.depth t = false := by
  unfold Program.flatS at h
  split at h
  · rename_i fs hu
    simp only [Bool.and_eq_true, Bool.not_eq_true'] at h
    have e : P.fieldsOf t = fs := by simp [Program.fieldsOf, hu]
    rw [e]
    exact ⟨hu, h.1.1, h.1.2, h.2⟩
  · cases h
theorem run_eqS {a : Act} {w : World} {yy : Ys} (hf : P.flatS t ks = true) {us vs : List Value} (h1 : CFs (Act.tau a) w yy cs us) (h2 : CFs (Act.tau a) w yy ds vs) (he : EqCs ks cs ds r) :
    (Op.equalIn 10000 t (.agg us.toArray) (.agg vs.toArray)).run P w = .ok r w := by
  obtain ⟨f1, f2, f3, f4⟩ := flat_open hf
  rw [show (10000 : Nat) = 9999 + 1 from rfl, run_equalIn_struct w 9999 t us.toArray vs.toArray f1 f3]
  exact eqFields_run (d := 9998) f2 (by simpa using h1) (by simpa using h2) he
theorem o_eqlS (hf : P.flatS t ks = true) (hx : Opd x ps (.agg cs)) (hy : Opd y qs (.agg ds)) (he : EqCs ks cs ds r) : OpC P ⟨d, .binOp .eql t x y t', ty, pos, af, g⟩ ⟨ps ++ qs, [], .pv (.bool r), []⟩ :=
  OpC.pure fun a w yy hp => by
    obtain ⟨us, e1, h1⟩ := hx a w yy hp.left
    obtain ⟨vs, e2, h2⟩ := hy a w yy hp.right
    have hg := run_eqGuard_agg (P := P) w .eql t x y us.toArray vs.toArray (flat_open hf).2.2.2
    have hr := run_eqS (P := P) hf h1 h2 he
    exact ⟨.bool r, by simp only [execOp, e1, e2, Sem.run_bind, hg, Result.andThen_ok, run_eql_struct, hr, Sem.run_pure], fun _ _ => rfl⟩
theorem o_neqS (hf : P.flatS t ks = true) (hx : Opd x ps (.agg cs)) (hy : Opd y qs (.agg ds)) (he : EqCs ks cs ds r) : OpC P ⟨d, .binOp .neq t x y t', ty, pos, af, g⟩ ⟨ps ++ qs, [], .pv (.bool (!r)), []⟩ :=
  OpC.pure fun a w yy hp => by
    obtain ⟨us, e1, h1⟩ := hx a w yy hp.left
    obtain ⟨vs, e2, h2⟩ := hy a w yy hp.right
    have hg := run_eqGuard_agg (P := P) w .neq t x y us.toArray vs.toArray (flat_open hf).2.2.2
    have hr := run_eqS (P := P) hf h1 h2 he
    exact ⟨.bool (!r), by simp only [execOp, e1, e2, Sem.run_bind, hg, Result.andThen_ok, run_neq_struct, hr, Sem.run_pure], fun _ _ => rfl⟩
/-- bools held against one another. -/
theorem o_eqlB {a b : Bool} (hu : P.underlying t = some .bool) (hx : Opd x ps (.pv (.bool a))) (hy : Opd y qs (.pv (.bool b))) : OpC P ⟨d, .binOp .eql t x y t', ty, pos, af, g⟩ ⟨ps ++ qs, [], .pv (.bool (a == b)), []⟩ :=
  OpC.pure fun act w yy hp => by
    have e1 : act.eval x = .bool a := hx act w yy hp.left
    have e2 : act.eval y = .bool b := hy act w yy hp.right
    have hg : (eqGuard .eql t x y (.bool a) (.bool b)).run P w = .ok () w := rfl
    have hb : (binOp .eql t (.bool a) (.bool b)).run P w = .ok (.bool (a == b)) w := by
      simp only [binOp, Op.equal, Op.maxDepth, Sem.run_bind]
      rw [show (10000 : Nat) = 9999 + 1 from rfl, run_equalIn_bool' w 9999 t a b hu]
      simp
    exact ⟨.bool (a == b), by simp only [execOp, e1, e2, Sem.run_bind, hg, Result.andThen_ok, hb, Sem.run_pure], fun _ _ => rfl⟩
theorem o_neqB {a b : Bool} (hu : P.underlying t = some .bool) (hx : Opd x ps (.pv (.bool a))) (hy : Opd y qs (.pv (.bool b))) : OpC P ⟨d, .binOp .neq t x y t', ty, pos, af, g⟩ ⟨ps ++ qs, [], .pv (.bool (a != b)), []⟩ :=
  OpC.pure fun act w yy hp => by
    have e1 : act.eval x = .bool a := hx act w yy hp.left
    have e2 : act.eval y = .bool b := hy act w yy hp.right
    have hg : (eqGuard .neq t x y (.bool a) (.bool b)).run P w = .ok () w := rfl
    have hb : (binOp .neq t (.bool a) (.bool b)).run P w = .ok (.bool (a != b)) w := by
      simp only [binOp, Op.equal, Op.maxDepth, Sem.run_bind]
      rw [show (10000 : Nat) = 9999 + 1 from rfl, run_equalIn_bool' w 9999 t a b hu]
      simp [bne]
    exact ⟨.bool (a != b), by simp only [execOp, e1, e2, Sem.run_bind, hg, Result.andThen_ok, hb, Sem.run_pure], fun _ _ => rfl⟩
end

theorem least (p : Nat → Prop) (h : ∃ n, p n) : ∃ n, p n ∧ ∀ m, p m → n ≤ m := by
  obtain ⟨n, hn⟩ := h
  induction n using Nat.strongRecOn with
  | _ n ih =>
    by_cases hs : ∃ m, m < n ∧ p m
    · obtain ⟨m, h1, h2⟩ := hs
      exact ih m h1 h2
    · exact ⟨n, hn, fun m hm => Nat.le_of_not_lt fun hlt => hs ⟨m, hlt, hm⟩⟩

/-- A loop: what holds at its head, told of a state σ; a round lowers the measure. -/
theorem loop_inv {P : Program} {Q : Exit → Act → World → Prop} {B : Base} {c : Code} {σ : Type} (I : σ → En) (C : σ → Prop) (μ : σ → Nat) {a : Act} {w : World} {F : Fp} (s0 : σ) (h0 : Sat B (I s0) a w F) (c0 : C s0)
    (round : ∀ s a w F, C s → Sat B (I s) a w F → c.wp P (Exit.then (fun a' w' => ∃ s' F', C s' ∧ Sat B (I s') a' w' F' ∧ μ s' < μ s) Q) a w) : (Code.loop c).wp P Q a w := by
  classical
  let p : Act → World → Nat → Prop := fun a w n => ∃ s F, C s ∧ Sat B (I s) a w F ∧ μ s = n
  let mm : Act → World → Nat := fun a w => if h : ∃ n, p a w n then Classical.choose (least (p a w) h) else 0
  have hmm : ∀ a w (h : ∃ n, p a w n), p a w (mm a w) ∧ ∀ m, p a w m → mm a w ≤ m := by
    intro a w h
    have := Classical.choose_spec (least (p a w) h)
    simp only [mm, dif_pos h]
    exact this
  refine wp_loop (fun a w => ∃ n, p a w n) mm ⟨_, s0, F, c0, h0, rfl⟩ ?_
  intro a w h
  obtain ⟨⟨s, F, h1, h2, h3⟩, _⟩ := hmm a w h
  refine Code.wp_mono ?_ (round s a w F h1 h2)
  intro e a' w' q
  cases e with
  | normal =>
    obtain ⟨s', F', k1, k2, k3⟩ := q
    have hp : p a' w' (μ s') := ⟨s', F', k1, k2, rfl⟩
    refine ⟨⟨_, hp⟩, ?_⟩
    have := (hmm a' w' ⟨_, hp⟩).2 _ hp
    omega
  | _ => exact q

theorem ret_G1 {P : Program} {B : Base} {F0 : Fp} (hG : BaseG B F0 1) {E : En} {a : Act} {w : World} {F : Fp} {fn : Func} {q : PV} {h' : HP} {ss : List SF} (hS : Sat B E a w F) (h0 : look E.r 0 = some (frame B)) (hr : ROk P E fn.results.toList ss) (hq : Tells ss q)
    (h1 : look E.r 1 = some (RS.hp h')) : bodyPost P fn (RG B F0 1 q (fun _ => [h'])) .ret a w :=
  ret_G hG hS h0 hr hq fun v τ y _ i h hi => by
    match i, hi with
    | 0, hi => simp at hi; subst hi; exact ⟨_, h1, Nat.le_refl _, fun _ _ _ k => k⟩
theorem ret_N1 {P : Program} {B : Base} {F0 : Fp} (hG : BaseG B F0 1) {E : En} {a : Act} {w : World} {F : Fp} {fn : Func} {q : PV} {h' : Value → HP} {v0 : Value} (hS : Sat B E a w F) (h0 : look E.r 0 = some (frame B)) (hr : ROk P E fn.results.toList [.pv (.is v0)]) (hq : Tells [.pv (.is v0)] q)
    (h1 : look E.r 1 = some (RS.hp (h' v0))) : bodyPost P fn (RG B F0 1 q (fun v => [h' v])) .ret a w :=
  ret_G hG hS h0 hr hq fun v τ y hv i h hi => by
    obtain ⟨vs, rfl, hvs⟩ := hv
    have e : valOf vs = v0 := by
      match vs, hvs with
      | [u], hvs => exact hvs.1.1
    rw [e] at hi
    match i, hi with
    | 0, hi => simp at hi; subst hi; exact ⟨_, h1, Nat.le_refl _, fun _ _ _ k => k⟩

/-- The range of a number that a slot holds. -/
theorem Sat.range {B : Base} {E : En} {a : Act} {w : World} {F : Fp} (h : Sat B E a w F) {i : Nat} {k : IntKind} {x : Int} (hl : look E.s i = some (.pv (.int k x))) : inR k x := (h.s i _ hl).2
end Go.Gm
