/- What each operation does: integers, tests, memory that is owned. No condition. -/
import Derived.Test.YtfldilhddeabeaaDoorLibC
namespace Go.Gm
set_option linter.unusedVariables false
set_option linter.unusedSimpArgs false

theorem ev_const (a : Act) (v : Value) : a.eval (.const v) = v := rfl
theorem beq_dec (m n : Int) : (m == n) = decide (m = n) := by
  by_cases h : m = n <;> simp [h]
theorem inR_wrap (k : IntKind) (n : Int) : inR k (k.wrap n) := wrap_within k n
theorem wrap_id {k : IntKind} {n : Int} (h : inR k n) : k.wrap n = n := by
  unfold inR at h
  unfold IntKind.wrap
  cases k <;> simp [IntKind.min, IntKind.max, IntKind.signed, IntKind.bits] at h ⊢ <;> first | omega | (split <;> omega)
theorem add_lit (b off j : Nat) : (⟨b, off, none⟩ : Addr).add j = ⟨b, off + j, none⟩ := Addr.add_lit b off j

section
variable {P : Program} {d : Option Nat} {ty : TypeId} {pos : String} {af : Array Edge} {g : Option (Nat × Bool)}
variable {x y : Operand} {ps qs : List (Nat × SF)} {k : IntKind} {m n : Int} {t t' : TypeId}

section ints
theorem o_int2 (hx : Opd x ps (.pv (.int k m))) (hy : Opd y qs (.pv (.int k n))) {op : BinOp} {s : PV} (h : ∀ w, ∃ v, (do eqGuard op t x y (.int k m) (.int k n); binOp op t (.int k m) (.int k n) : Sem Value).run P w = .ok v w ∧ ∀ y, s.p v w y) :
    OpC P ⟨d, .binOp op t x y t', ty, pos, af, g⟩ ⟨ps ++ qs, [], .pv s, []⟩ :=
  OpC.pure fun a w yy hp => by
    have e1 : a.eval x = .int k m := (hx a w yy hp.left).1
    have e2 : a.eval y = .int k n := (hy a w yy hp.right).1
    obtain ⟨v, hv, hs⟩ := h w
    refine ⟨v, ?_, fun τ' _ => hs yy⟩
    simp only [execOp, e1, e2, Sem.run_bind, hv, Result.andThen_ok, Sem.run_pure]

theorem o_lss (hx : Opd x ps (.pv (.int k m))) (hy : Opd y qs (.pv (.int k n))) : OpC P ⟨d, .binOp .lss t x y t', ty, pos, af, g⟩ ⟨ps ++ qs, [], .pv (.bool (decide (m < n))), []⟩ :=
  o_int2 hx hy fun w => ⟨.bool (decide (m < n)), by simp [eqGuard, binOp, Op.intCmp], fun _ => rfl⟩
theorem o_leq (hx : Opd x ps (.pv (.int k m))) (hy : Opd y qs (.pv (.int k n))) : OpC P ⟨d, .binOp .leq t x y t', ty, pos, af, g⟩ ⟨ps ++ qs, [], .pv (.bool (decide (m ≤ n))), []⟩ :=
  o_int2 hx hy fun w => ⟨.bool (decide (m ≤ n)), by simp [eqGuard, binOp, Op.intCmp], fun _ => rfl⟩
theorem o_gtr (hx : Opd x ps (.pv (.int k m))) (hy : Opd y qs (.pv (.int k n))) : OpC P ⟨d, .binOp .gtr t x y t', ty, pos, af, g⟩ ⟨ps ++ qs, [], .pv (.bool (decide (n < m))), []⟩ :=
  o_int2 hx hy fun w => ⟨.bool (decide (n < m)), by simp [eqGuard, binOp, Op.intCmp], fun _ => rfl⟩
theorem o_geq (hx : Opd x ps (.pv (.int k m))) (hy : Opd y qs (.pv (.int k n))) : OpC P ⟨d, .binOp .geq t x y t', ty, pos, af, g⟩ ⟨ps ++ qs, [], .pv (.bool (decide (n ≤ m))), []⟩ :=
  o_int2 hx hy fun w => ⟨.bool (decide (n ≤ m)), by simp [eqGuard, binOp, Op.intCmp], fun _ => rfl⟩
theorem o_eql (hx : Opd x ps (.pv (.int k m))) (hy : Opd y qs (.pv (.int k n))) : OpC P ⟨d, .binOp .eql t x y t', ty, pos, af, g⟩ ⟨ps ++ qs, [], .pv (.bool (decide (m = n))), []⟩ :=
  o_int2 hx hy fun w => ⟨.bool (m == n), by simp [eqGuard, binOp, Op.intCmp], fun _ => by rw [beq_dec]; rfl⟩
theorem o_neq (hx : Opd x ps (.pv (.int k m))) (hy : Opd y qs (.pv (.int k n))) : OpC P ⟨d, .binOp .neq t x y t', ty, pos, af, g⟩ ⟨ps ++ qs, [], .pv (.bool (!decide (m = n))), []⟩ :=
  o_int2 hx hy fun w => ⟨.bool (m != n), by simp [eqGuard, binOp, Op.intCmp], fun _ => by rw [bne, beq_dec]; rfl⟩
theorem o_add (hx : Opd x ps (.pv (.int k m))) (hy : Opd y qs (.pv (.int k n))) : OpC P ⟨d, .binOp .add t x y t', ty, pos, af, g⟩ ⟨ps ++ qs, [], .pv (.int k (k.wrap (m + n))), []⟩ :=
  o_int2 hx hy fun w => ⟨.int k (k.wrap (m + n)), by simp [eqGuard, binOp, Op.intArith], fun _ => ⟨rfl, inR_wrap _ _⟩⟩
theorem o_sub (hx : Opd x ps (.pv (.int k m))) (hy : Opd y qs (.pv (.int k n))) : OpC P ⟨d, .binOp .sub t x y t', ty, pos, af, g⟩ ⟨ps ++ qs, [], .pv (.int k (k.wrap (m - n))), []⟩ :=
  o_int2 hx hy fun w => ⟨.int k (k.wrap (m - n)), by simp [eqGuard, binOp, Op.intArith], fun _ => ⟨rfl, inR_wrap _ _⟩⟩
theorem o_mul (hx : Opd x ps (.pv (.int k m))) (hy : Opd y qs (.pv (.int k n))) : OpC P ⟨d, .binOp .mul t x y t', ty, pos, af, g⟩ ⟨ps ++ qs, [], .pv (.int k (k.wrap (m * n))), []⟩ :=
  o_int2 hx hy fun w => ⟨.int k (k.wrap (m * n)), by simp [eqGuard, binOp, Op.intArith], fun _ => ⟨rfl, inR_wrap _ _⟩⟩
theorem o_quo (hx : Opd x ps (.pv (.int k m))) (hy : Opd y qs (.pv (.int k n))) (h : n ≠ 0) : OpC P ⟨d, .binOp .quo t x y t', ty, pos, af, g⟩ ⟨ps ++ qs, [], .pv (.int k (k.wrap (m.tdiv n))), []⟩ :=
  o_int2 hx hy fun w => ⟨.int k (k.wrap (m.tdiv n)), by simp [eqGuard, binOp, Op.intDiv, h], fun _ => ⟨rfl, inR_wrap _ _⟩⟩
theorem o_and (hx : Opd x ps (.pv (.int k m))) (hy : Opd y qs (.pv (.int k n))) : OpC P ⟨d, .binOp .and t x y t', ty, pos, af, g⟩ ⟨ps ++ qs, [], .pv (.int k (bits .and k m n)), []⟩ :=
  o_int2 hx hy fun w => ⟨.int k (bits .and k m n), by simp [eqGuard, binOp, Op.intBits, bits], fun _ => ⟨rfl, bits_within _ _ _ _⟩⟩
theorem o_or (hx : Opd x ps (.pv (.int k m))) (hy : Opd y qs (.pv (.int k n))) : OpC P ⟨d, .binOp .or t x y t', ty, pos, af, g⟩ ⟨ps ++ qs, [], .pv (.int k (bits .or k m n)), []⟩ :=
  o_int2 hx hy fun w => ⟨.int k (bits .or k m n), by simp [eqGuard, binOp, Op.intBits, bits], fun _ => ⟨rfl, bits_within _ _ _ _⟩⟩
theorem o_xor (hx : Opd x ps (.pv (.int k m))) (hy : Opd y qs (.pv (.int k n))) : OpC P ⟨d, .binOp .xor t x y t', ty, pos, af, g⟩ ⟨ps ++ qs, [], .pv (.int k (bits .xor k m n)), []⟩ :=
  o_int2 hx hy fun w => ⟨.int k (bits .xor k m n), by simp [eqGuard, binOp, Op.intBits, bits], fun _ => ⟨rfl, bits_within _ _ _ _⟩⟩
theorem o_andnot (hx : Opd x ps (.pv (.int k m))) (hy : Opd y qs (.pv (.int k n))) : OpC P ⟨d, .binOp .andNot t x y t', ty, pos, af, g⟩ ⟨ps ++ qs, [], .pv (.int k (bits .andNot k m n)), []⟩ :=
  o_int2 hx hy fun w => ⟨.int k (bits .andNot k m n), by simp [eqGuard, binOp, Op.intBits, bits], fun _ => ⟨rfl, bits_within _ _ _ _⟩⟩
end ints

theorem o_min {m n : Int} (hx : Opd x ps (.pv (.int k m))) (hy : Opd y qs (.pv (.int k n))) :
    OpC P ⟨d, .call { callee := .builtin .min, args := #[x, y], argTypes := #[t, t'] }, ty, pos, af, g⟩ ⟨ps ++ qs, [], .pv (.int k (if n < m then n else m)), []⟩ :=
  OpC.pure fun a w yy hp => by
    have e1 := hx a w yy hp.left
    have e2 := hy a w yy hp.right
    refine ⟨.int k (if n < m then n else m), ?_, fun τ' _ => ⟨rfl, ?_⟩⟩
    · simp [execOp, resolve, invoke, builtin, Builtin.min_, Builtin.min2, e1.1, e2.1]
    · by_cases h : n < m
      · rw [if_pos h]; exact e2.2
      · rw [if_neg h]; exact e1.2
theorem o_max {m n : Int} (hx : Opd x ps (.pv (.int k m))) (hy : Opd y qs (.pv (.int k n))) :
    OpC P ⟨d, .call { callee := .builtin .max, args := #[x, y], argTypes := #[t, t'] }, ty, pos, af, g⟩ ⟨ps ++ qs, [], .pv (.int k (if m < n then n else m)), []⟩ :=
  OpC.pure fun a w yy hp => by
    have e1 := hx a w yy hp.left
    have e2 := hy a w yy hp.right
    refine ⟨.int k (if m < n then n else m), ?_, fun τ' _ => ⟨rfl, ?_⟩⟩
    · simp [execOp, resolve, invoke, builtin, Builtin.max_, Builtin.max2, e1.1, e2.1]
    · by_cases h : m < n
      · rw [if_pos h]; exact e2.2
      · rw [if_neg h]; exact e1.2

theorem o_not {β : Bool} (hx : Opd x ps (.pv (.bool β))) : OpC P ⟨d, .unOp .not t x, ty, pos, af, g⟩ ⟨ps, [], .pv (.bool (!β)), []⟩ :=
  OpC.pure fun a w yy hp => by
    have e1 : a.eval x = .bool β := hx a w yy hp
    exact ⟨.bool !β, by simp [execOp, e1, Op.unary], fun τ' _ => rfl⟩
theorem o_neg (hx : Opd x ps (.pv (.int k m))) : OpC P ⟨d, .unOp .neg t x, ty, pos, af, g⟩ ⟨ps, [], .pv (.int k (k.wrap (0 - m))), []⟩ :=
  OpC.pure fun a w yy hp => by
    have e1 := (hx a w yy hp).1
    exact ⟨.int k (k.wrap (0 - m)), by simp [execOp, e1, Op.unary, Op.intArith], fun τ' _ => ⟨rfl, inR_wrap _ _⟩⟩
theorem o_conv {k' : IntKind} (hu : P.underlying t' = some (.int k')) (ht : (P.underlying t).isSome = true) (hx : Opd x ps (.pv (.int k m))) :
    OpC P ⟨d, .convert t t' x, ty, pos, af, g⟩ ⟨ps, [], .pv (.int k' (k'.wrap m)), []⟩ :=
  OpC.pure fun a w yy hp => by
    have e1 := (hx a w yy hp).1
    obtain ⟨u, hu'⟩ := Option.isSome_iff_exists.1 ht
    exact ⟨.int k' (k'.wrap m), by simp [execOp, e1, convert, run_underlying hu, run_underlying hu', Conv.intToInt], fun τ' _ => ⟨rfl, inR_wrap _ _⟩⟩

/-- 'a || b', 'a && b', as the translation has them. -/
theorem o_or2 {c : Operand} {β γ : Bool} (hc : Opd c ps (.pv (.bool β))) (hb : Opd y qs (.when (β = false) (.pv (.bool γ)))) :
    OpC P ⟨d, .pick c (.const (.bool true)) y, ty, pos, af, g⟩ ⟨ps ++ qs, [], .pv (.bool (β || γ)), []⟩ :=
  OpC.pure fun a w yy hp => by
    have e1 : a.eval c = .bool β := hc a w yy hp.left
    have e2 := (hb a w yy hp.right).1
    cases β with
    | true => exact ⟨.bool true, by simp [execOp, e1, asBool, ev_const], fun _ _ => rfl⟩
    | false =>
      have e3 : a.eval y = .bool γ := e2 rfl
      exact ⟨.bool γ, by simp [execOp, e1, e3, asBool], fun _ _ => by simp [SF.holds, PV.bool]⟩
theorem o_and2 {c : Operand} {β γ : Bool} (hc : Opd c ps (.pv (.bool β))) (hb : Opd y qs (.when (β = true) (.pv (.bool γ)))) :
    OpC P ⟨d, .pick c y (.const (.bool false)), ty, pos, af, g⟩ ⟨ps ++ qs, [], .pv (.bool (β && γ)), []⟩ :=
  OpC.pure fun a w yy hp => by
    have e1 : a.eval c = .bool β := hc a w yy hp.left
    have e2 := (hb a w yy hp.right).1
    cases β with
    | false => exact ⟨.bool false, by simp [execOp, e1, asBool, ev_const], fun _ _ => rfl⟩
    | true =>
      have e3 : a.eval y = .bool γ := e2 rfl
      exact ⟨.bool γ, by simp [execOp, e1, e3, asBool], fun _ _ => by simp [SF.holds, PV.bool]⟩

theorem inR_tmod {k : IntKind} {m n : Int} (hm : inR k m) (hn : inR k n) (h : n ≠ 0) : inR k (m.tmod n) := by
  unfold inR at *
  have h1 := Int.tmod_lt_of_pos
  have habs : (m.tmod n).natAbs ≤ m.natAbs := by rw [Int.natAbs_tmod]; exact Nat.mod_le _ _
  rcases Int.lt_or_le m 0 with hneg | hpos
  · have h2 : m.tmod n ≤ 0 := by
      have := Int.tmod_nonneg (a := -m) n (by omega)
      rw [Int.neg_tmod] at this; omega
    have h3 : k.min ≤ 0 := by cases k <;> simp [IntKind.min, IntKind.signed, IntKind.bits]
    have h4 : 0 ≤ k.max := by cases k <;> simp [IntKind.max, IntKind.signed, IntKind.bits]
    omega
  · have h2 := Int.tmod_nonneg n hpos
    have h3 : k.min ≤ 0 := by cases k <;> simp [IntKind.min, IntKind.signed, IntKind.bits]
    omega
theorem o_rem {m n : Int} (hx : Opd x ps (.pv (.int k m))) (hy : Opd y qs (.pv (.int k n))) (h : n ≠ 0) : OpC P ⟨d, .binOp .rem t x y t', ty, pos, af, g⟩ ⟨ps ++ qs, [], .pv (.int k (m.tmod n)), []⟩ :=
  OpC.pure fun a w yy hp => by
    have e1 := hx a w yy hp.left
    have e2 := hy a w yy hp.right
    exact ⟨.int k (m.tmod n), by simp [execOp, e1.1, e2.1, eqGuard, binOp, Op.intDiv, h], fun _ _ => ⟨rfl, inR_tmod e1.2 e2.2 h⟩⟩
/-- Shifts. -/
theorem o_shl {m n : Int} {k' : IntKind} (hx : Opd x ps (.pv (.int k m))) (hy : Opd y qs (.pv (.int k' n))) (h : 0 ≤ n) : OpC P ⟨d, .binOp .shl t x y t', ty, pos, af, g⟩ ⟨ps ++ qs, [], .pv (.int k (k.wrap (m * 2 ^ min n.toNat k.bits))), []⟩ :=
  OpC.pure fun a w yy hp => by
    have e1 := (hx a w yy hp.left).1
    have e2 := (hy a w yy hp.right).1
    have h' : ¬ n < 0 := by omega
    exact ⟨.int k (k.wrap (m * 2 ^ min n.toNat k.bits)), by simp [execOp, e1, e2, eqGuard, binOp, Op.shift, h'], fun _ _ => ⟨rfl, inR_wrap _ _⟩⟩

theorem pointee_eq {t ty' : TypeId} (hu : P.underlying t = some (.pointer ty')) : P.underlying t = some (.pointer (P.pointee t)) := by
  simp [Program.pointee, hu]
/-- Pointers held against nil. -/
theorem o_nil_eql {v : Value} {ty' : TypeId} (ad : Option Addr) (hu : P.underlying t = some (.pointer ty')) (hv : v = .pointer ad) (hx : Opd x ps (.pv (.is v))) :
    OpC P ⟨d, .binOp .eql t x (.const (.pointer none)) t', ty, pos, af, g⟩ ⟨ps, [], .pv (.bool ad.isNone), []⟩ :=
  OpC.pure fun a w yy hp => by
    have e1 : a.eval x = v := (hx a w yy hp).1
    subst hv
    refine ⟨.bool ad.isNone, ?_, fun _ _ => rfl⟩
    have hg : (eqGuard .eql t x (.const (.pointer none)) (.pointer ad) (.pointer none)).run P w = .ok () w := rfl
    have hr := run_eql_pointer_nil (P := P) w t ad (pointee_eq hu)
    simp only [execOp, e1, ev_const, Sem.run_bind, hg, Result.andThen_ok, hr, Sem.run_pure]
theorem o_nil_neq {v : Value} {ty' : TypeId} (ad : Option Addr) (hu : P.underlying t = some (.pointer ty')) (hv : v = .pointer ad) (hx : Opd x ps (.pv (.is v))) :
    OpC P ⟨d, .binOp .neq t x (.const (.pointer none)) t', ty, pos, af, g⟩ ⟨ps, [], .pv (.bool (!ad.isNone)), []⟩ :=
  OpC.pure fun a w yy hp => by
    have e1 : a.eval x = v := (hx a w yy hp).1
    subst hv
    refine ⟨.bool (!ad.isNone), ?_, fun _ _ => rfl⟩
    have hg : (eqGuard .neq t x (.const (.pointer none)) (.pointer ad) (.pointer none)).run P w = .ok () w := rfl
    have hr := run_neq_pointer_nil (P := P) w t ad (pointee_eq hu)
    simp only [execOp, e1, ev_const, Sem.run_bind, hg, Result.andThen_ok, hr, Sem.run_pure]
end
end Go.Gm
