/- Strings, told as lists of bytes; shifts to the right; arrays in a block. No condition. -/
import Derived.Test.YtfldilhddeabeaaDoorLibO
import Derived.Laws.Strings3
import Derived.Laws.Concat
import Derived.Laws.IdiomStrings
namespace Go.Gm
set_option linter.unusedVariables false
set_option linter.unusedSimpArgs false

abbrev PV.bs (l : List UInt8) : PV := .str ⟨l.toArray⟩
theorem size_mk (l : List UInt8) : (ByteArray.mk l.toArray).size = l.length := by simp [ByteArray.size]

section
variable {P : Program} {d : Option Nat} {t t' ty : TypeId} {pos : String} {af : Array Edge} {g : Option (Nat × Bool)} {x y z z' : Operand} {ps qs rs : List (Nat × SF)} {l l' : List UInt8} {k k' : IntKind} {i j : Int}

theorem o_len_bs (hu : P.underlying t = some .string) (hx : Opd x ps (.pv (.bs l))) :
    OpC P ⟨d, .call { callee := .builtin .len, args := #[x], argTypes := #[t] }, ty, pos, af, g⟩ ⟨ps, [], .pv (.int .i64 l.length), []⟩ :=
  OpC.pure fun a w yy hp => by
    obtain ⟨e1, h1⟩ := hx a w yy hp
    rw [size_mk] at h1
    refine ⟨.int .i64 l.length, ?_, fun _ _ => ⟨rfl, ?_⟩⟩
    · simp [execOp, resolve, invoke, builtin, e1, run_len_string w t ty _ hu, goInt, size_mk]
    · unfold maxLen at h1
      simp [inR, IntKind.min, IntKind.max, IntKind.signed, IntKind.bits]; omega
theorem o_index_bs (hu : P.underlying t = some .string) (hx : Opd x ps (.pv (.bs l))) (hy : Opd y qs (.pv (.int k i))) (h0 : 0 ≤ i) (h1 : i < l.length) :
    OpC P ⟨d, .index t x y, ty, pos, af, g⟩ ⟨ps ++ qs, [], .pv (.int .u8 ((nth l i.toNat).toNat : Int)), []⟩ :=
  OpC.pure fun a w yy hp => by
    obtain ⟨e1, _⟩ := hx a w yy hp.left
    have e2 := (hy a w yy hp.right).1
    have hn : i.toNat < l.length := by omega
    refine ⟨.int .u8 ((nth l i.toNat).toNat : Int), ?_, fun _ _ => ⟨rfl, ?_⟩⟩
    · have := run_index_string (P := P) w t ⟨l.toArray⟩ k i hu
      rw [dif_pos ⟨h0, by rw [size_mk]; exact h1⟩] at this
      simp only [execOp, e1, e2, Sem.run_bind, this, Result.andThen_ok, Sem.run_pure]
      rw [nth_eq hn]
      rfl
    · have := (nth l i.toNat).toNat_lt
      simp [inR, IntKind.min, IntKind.max, IntKind.signed, IntKind.bits]; omega
theorem o_add_bs (hx : Opd x ps (.pv (.bs l))) (hy : Opd y qs (.pv (.bs l'))) (h : l.length + l'.length ≤ 9223372036854775807) :
    OpC P ⟨d, .binOp .add t x y t', ty, pos, af, g⟩ ⟨ps ++ qs, [], .pv (.bs (l ++ l')), []⟩ :=
  OpC.pure fun a w yy hp => by
    obtain ⟨e1, _⟩ := hx a w yy hp.left
    obtain ⟨e2, _⟩ := hy a w yy hp.right
    have hr := run_string_add_sum (P := P) w ⟨l.toArray⟩ ⟨l'.toArray⟩ (by rw [size_mk, size_mk]; exact h)
    rw [ByteArray.mk_append_mk] at hr
    refine ⟨.string ⟨(l ++ l').toArray⟩, ?_, fun _ _ => ⟨rfl, ?_⟩⟩
    · simp only [execOp, e1, e2, Sem.run_bind, show (eqGuard .add t x y (.string ⟨l.toArray⟩) (.string ⟨l'.toArray⟩)).run P w = .ok () w from rfl, Result.andThen_ok, binOp, hr, Sem.run_pure]
    · rw [size_mk, List.length_append]; unfold maxLen; omega
theorem bs_eq_dec (l l' : List UInt8) : (l == l') = decide (l = l') := by
  by_cases h : l = l'
  · subst h; simp
  · rw [decide_eq_false h]; simpa using h
theorem o_eql_bs (hu : P.underlying t = some .string) (hx : Opd x ps (.pv (.bs l))) (hy : Opd y qs (.pv (.bs l'))) :
    OpC P ⟨d, .binOp .eql t x y t', ty, pos, af, g⟩ ⟨ps ++ qs, [], .pv (.bool (decide (l = l'))), []⟩ :=
  OpC.pure fun a w yy hp => by
    obtain ⟨e1, _⟩ := hx a w yy hp.left
    obtain ⟨e2, _⟩ := hy a w yy hp.right
    refine ⟨.bool (decide (l = l')), ?_, fun _ _ => rfl⟩
    have hq : (binOp .eql t (.string ⟨l.toArray⟩) (.string ⟨l'.toArray⟩)).run P w = .ok (.bool (decide (l = l'))) w := by
      simp only [binOp, Op.stringOp, ByteArray.toList_mk, bs_eq_dec, Sem.run_pure]
    simp only [execOp, e1, e2, Sem.run_bind, show (eqGuard .eql t x y (.string ⟨l.toArray⟩) (.string ⟨l'.toArray⟩)).run P w = .ok () w from rfl, Result.andThen_ok, hq, Sem.run_pure]
theorem o_neq_bs (hu : P.underlying t = some .string) (hx : Opd x ps (.pv (.bs l))) (hy : Opd y qs (.pv (.bs l'))) :
    OpC P ⟨d, .binOp .neq t x y t', ty, pos, af, g⟩ ⟨ps ++ qs, [], .pv (.bool (!decide (l = l'))), []⟩ :=
  OpC.pure fun a w yy hp => by
    obtain ⟨e1, _⟩ := hx a w yy hp.left
    obtain ⟨e2, _⟩ := hy a w yy hp.right
    refine ⟨.bool (!decide (l = l')), ?_, fun _ _ => rfl⟩
    have hq : (binOp .neq t (.string ⟨l.toArray⟩) (.string ⟨l'.toArray⟩)).run P w = .ok (.bool (!decide (l = l'))) w := by
      simp only [binOp, Op.stringOp, ByteArray.toList_mk, bs_eq_dec, Sem.run_pure]
    simp only [execOp, e1, e2, Sem.run_bind, show (eqGuard .neq t x y (.string ⟨l.toArray⟩) (.string ⟨l'.toArray⟩)).run P w = .ok () w from rfl, Result.andThen_ok, hq, Sem.run_pure]
theorem sliceAt_str (hu : P.underlying t = some .string) (v : Value) (u1 u2 u3 : Option Value) (w : World) : (Instr.sliceAt t v u1 u2 u3).run P w = (Instr.slice t v u1 u2 u3).run P w := by simp [Instr.sliceAt, run_underlying hu]
theorem o_slice_bs_hi (hu : P.underlying t = some .string) (hx : Opd x ps (.pv (.bs l))) (hz : Opd z qs (.pv (.int k j))) (h1 : 0 ≤ j) (h2 : j ≤ l.length) :
    OpC P ⟨d, .slice t x none (some z) none, ty, pos, af, g⟩ ⟨ps ++ qs, [], .pv (.bs (l.take j.toNat)), []⟩ :=
  OpC.pure fun a w yy hp => by
    obtain ⟨e1, hm⟩ := hx a w yy hp.left
    have e2 := (hz a w yy hp.right).1
    have hr := run_slice_string_to_if (P := P) w t ⟨l.toArray⟩ k j hu
    rw [if_pos ⟨h1, by rw [size_mk]; exact h2⟩, ByteArray.extract_mk] at hr
    refine ⟨.string ⟨(l.take j.toNat).toArray⟩, ?_, fun _ _ => ⟨rfl, ?_⟩⟩
    · simp only [execOp, e1, e2, Option.map, Sem.run_bind, sliceAt_str hu, hr, Result.andThen_ok, Sem.run_pure, List.drop_zero, Nat.sub_zero]
    · rw [size_mk] at *; have := List.length_take_le' j.toNat l; omega
theorem o_slice_bs_lo (hu : P.underlying t = some .string) (hx : Opd x ps (.pv (.bs l))) (hz : Opd z qs (.pv (.int k j))) (h1 : 0 ≤ j) (h2 : j ≤ l.length) :
    OpC P ⟨d, .slice t x (some z) none none, ty, pos, af, g⟩ ⟨ps ++ qs, [], .pv (.bs (l.drop j.toNat)), []⟩ :=
  OpC.pure fun a w yy hp => by
    obtain ⟨e1, hm⟩ := hx a w yy hp.left
    have e2 := (hz a w yy hp.right).1
    have hr := run_slice_string_from_if (P := P) w t ⟨l.toArray⟩ k j hu
    rw [if_pos ⟨h1, by rw [size_mk]; exact h2⟩, ByteArray.extract_mk, size_mk] at hr
    rw [show (l.drop j.toNat).take (l.length - j.toNat) = l.drop j.toNat by rw [List.take_of_length_le (by rw [List.length_drop]; omega)]] at hr
    refine ⟨.string ⟨(l.drop j.toNat).toArray⟩, ?_, fun _ _ => ⟨rfl, ?_⟩⟩
    · simp only [execOp, e1, e2, Option.map, Sem.run_bind, sliceAt_str hu, hr, Result.andThen_ok, Sem.run_pure]
    · rw [size_mk] at *; rw [List.length_drop]; omega
theorem o_slice_bs_lh (hu : P.underlying t = some .string) (hx : Opd x ps (.pv (.bs l))) (hz : Opd z qs (.pv (.int k i))) (hz' : Opd z' rs (.pv (.int k' j))) (h0 : 0 ≤ i) (h1 : i ≤ j) (h2 : j ≤ l.length) :
    OpC P ⟨d, .slice t x (some z) (some z') none, ty, pos, af, g⟩ ⟨ps ++ (qs ++ rs), [], .pv (.bs ((l.take j.toNat).drop i.toNat)), []⟩ :=
  OpC.pure fun a w yy hp => by
    obtain ⟨e1, hm⟩ := hx a w yy hp.left
    have e2 := (hz a w yy hp.right.left).1
    have e3 := (hz' a w yy hp.right.right).1
    have hr := run_slice_string (P := P) w t ⟨l.toArray⟩ k k' i j hu h0 h1 (by rw [size_mk]; exact h2)
    rw [ByteArray.extract_mk] at hr
    rw [show (l.drop i.toNat).take (j.toNat - i.toNat) = (l.take j.toNat).drop i.toNat by rw [List.drop_take]] at hr
    refine ⟨.string ⟨((l.take j.toNat).drop i.toNat).toArray⟩, ?_, fun _ _ => ⟨rfl, ?_⟩⟩
    · simp only [execOp, e1, e2, e3, Option.map, Sem.run_bind, sliceAt_str hu, hr, Result.andThen_ok, Sem.run_pure]
    · rw [size_mk] at *
      have := List.length_take_le' j.toNat l
      rw [List.length_drop]; omega
theorem o_shr {m n : Int} (hx : Opd x ps (.pv (.int k m))) (hy : Opd y qs (.pv (.int k' n))) (h : 0 ≤ n) : OpC P ⟨d, .binOp .shr t x y t', ty, pos, af, g⟩ ⟨ps ++ qs, [], .pv (.int k (m.fdiv (2 ^ min n.toNat k.bits))), []⟩ :=
  OpC.pure fun a w yy hp => by
    have e1 := (hx a w yy hp.left).1
    have e2 := (hy a w yy hp.right).1
    have hm := (hx a w yy hp.left).2
    have h' : ¬ n < 0 := by omega
    refine ⟨.int k (m.fdiv (2 ^ min n.toNat k.bits)), by simp [execOp, e1, e2, eqGuard, binOp, Op.shift, h'], fun _ _ => ⟨rfl, ?_⟩⟩
    have hp2 : (0 : Int) < 2 ^ min n.toNat k.bits := Int.pow_pos (by decide)
    rw [Int.fdiv_eq_ediv_of_nonneg _ (Int.le_of_lt hp2)]
    have hk : k.min ≤ 0 := by cases k <;> decide
    have hk' : 0 ≤ k.max := by cases k <;> decide
    unfold inR at *
    have h1p : (1 : Int) ≤ 2 ^ min n.toNat k.bits := hp2
    constructor
    · by_cases h0 : 0 ≤ m
      · exact Int.le_trans hk (Int.ediv_nonneg h0 (Int.le_of_lt hp2))
      · have : m ≤ m / 2 ^ min n.toNat k.bits := by
          rw [Int.le_ediv_iff_mul_le hp2]
          have : m * 2 ^ min n.toNat k.bits ≤ m * 1 := Int.mul_le_mul_of_nonpos_left (by omega) h1p
          omega
        exact Int.le_trans hm.1 this
    · by_cases h0 : 0 ≤ m
      · exact Int.le_trans (Int.ediv_le_self _ h0) hm.2
      · have : m / 2 ^ min n.toNat k.bits < 0 := Int.ediv_neg_of_neg_of_pos (by omega) hp2
        omega
end
end Go.Gm
