/- Queues: the ring; what is read. No condition beyond those that each theorem says. -/
import Derived.Test.YtdfidiehkkbimaaSq5
import Derived.Test.YtdfidiehkkbimaaLibE
namespace Go.Proofs.Ytdfidiehkkbimaa
open Go Go.Gm
set_option linter.unusedVariables false
set_option linter.unusedSimpArgs false
set_option maxHeartbeats 4000000
set_option maxRecDepth 8000


theorem inR0 : inR .i64 0 := by show IntKind.min .i64 ≤ 0 ∧ 0 ≤ IntKind.max .i64; decide
theorem Ent.sure {c : Prop} {s : SF} (h : c) : Ent s (.when c s) := fun _ _ _ _ k => ⟨fun _ => k, fun n => absurd h n⟩
theorem Ent.adr0 {b : Nat} : Ent (.adr (.val (.pointer (some ⟨b, 0, none⟩))) 0) (.pv (.is (.pointer (some ⟨b, 0, none⟩)))) := fun _ _ _ _ h => by
  have e : _ = Value.pointer (some ⟨b, 0, none⟩) := h
  exact ⟨e, by rw [e]; rfl⟩
section
variable {P : Program} {t t2 e ty : TypeId} {pos : String} {af : Array Edge} {g : Option (Nat × Bool)} {x y : Operand} {ps qs : List (Nat × SF)} {α : Type} {R : α → List PV} {l s : List α} {sz : Nat} {v : Value}
/-- What is copied into a row of one's own, from its beginning on. -/
theorem o_copy_row {d' : Nat} (n : Nat) (hu : P.underlying t = some (.slice e)) (hs : (P.info? e).map (·.size) = some sz) (hR : ∀ x, (R x).length = sz) (hx : Opd x ps (.pv (.is v))) (hy : Opd y qs (.pv (.sl R s))) (hk : s.length ≤ l.length) :
    OpC P ⟨some d', .call { callee := .builtin .copy, args := #[x, y], argTypes := #[t, t2] }, ty, pos, af, g⟩ ⟨ps ++ qs, [(n, .ob (.val v) (rowH e sz R l))], .pv .any, [(n, .ob (.val v) (rowH e sz R (s ++ l.drop s.length)))]⟩ := fun act w F K Q hw hp hr ht => by
  obtain ⟨xs, r1, r2, r3⟩ := id (hr (n, .ob (.val v) (rowH e sz R l)) (by simp))
  obtain ⟨ad, cap, ev, _, _, _⟩ := row_shape r1
  simp only [Anc.v] at ev
  by_cases hs0 : s = []
  · subst hs0
    obtain ⟨sa, sc, es, _, _, _⟩ := hy act w (U F) hp.right
    have ex : act.eval x = .slice ad l.length cap := by rw [(hx act w (U F) hp.left).1, ev]
    have hrun : (execOp act.eval ⟨some d', .call { callee := .builtin .copy, args := #[x, y], argTypes := #[t, t2] }, ty, pos, af, g⟩).run P w = .ok (.value (goInt 0)) w := by
      cases ad <;> cases sa <;> simp [execOp, resolve, invoke, builtin, ex, es, Builtin.copy_, run_underlying hu, Builtin.lenOf, Builtin.firstCells, Go.Gm.run_sizeOf hs, goInt, storeCells, loadCells, loadCellsFrom]
    simp only [Oper.wp, hrun, Oper.upon]
    refine ht _ _ F hw ⟨rfl, rfl, rfl, Nat.le_refl _, fun _ _ _ => rfl, fun _ _ => rfl, fun n hn b hb => .inl ⟨n, hn, hb⟩⟩ trivial ?_
    intro z' hz'
    simp only [List.mem_singleton] at hz'
    subst hz'
    exact hr (n, .ob (.val v) (rowH e sz R l)) (by simp)
  · have hsl0 : 0 < s.length := List.length_pos_iff.2 hs0
    have hv : subV sz 0 v = v := by
      rcases r1.2 with ⟨_, hn0⟩ | ⟨b, cap, cur, ev, _⟩
      · omega
      · simp only [Anc.v] at ev
        rw [ev]; simp [subV]
    have h := o_copy_sub (P := P) (t2 := t2) (ty := ty) (pos := pos) (af := af) (g := g) (s := s) (l := l) (v := v) (k := 0) (d' := d') n hu hs hR (by rw [hv]; exact hx) hy hs0 (by omega)
    rw [List.take_zero, List.nil_append, Nat.zero_add] at h
    exact h act w F K Q hw hp hr ht
end
structure QOk (room : Int) (c l : List Int) : Prop where
  r0 : 0 ≤ room
  r1 : room ≤ 65536
  fits : (l.length : Int) ≤ room
  le : l.length ≤ c.length
  cells : c.take l.length = l
  pow : c.length = 0 ∨ ∃ k, k ≤ 17 ∧ c.length = 2 ^ k
def qParts (v rv : Value) (room : Int) (n : Nat) (c : List Int) : List RS := [.pt (.val v) 137 [.pv (.int .i64 room), .pv (.is rv), .pv (.int .u64 0), .pv (.int .i64 n)], .ob (.val rv) (rowH 3 1 rInt c)]
def qH (v : Value) (room : Int) (l : List Int) : HP := .ex fun rv : Value => .ex fun c : List Int => .and (QOk room c l) (.star (qParts v rv room l.length c))
def stParts (v rv : Value) (room : Int) (l : List Int) : List RS := [.pt (.val v) 141 [.pv (.is rv), .pv (.int .i64 room)], .ob (.val rv) (rowH 3 1 rInt l)]
def stH (v : Value) (room : Int) (l : List Int) : HP := .ex fun rv : Value => .star (stParts v rv room l)
theorem take_at {c l : List Int} (h : c.take l.length = l) {i : Nat} (hi : i < l.length) : Go.Gm.nth c i = Go.Gm.nth l i := by
  have e : (c.take l.length)[i]? = l[i]? := by rw [h]
  rw [List.getElem?_take_of_lt hi, List.getElem?_eq_getElem hi] at e
  obtain ⟨h2, e2⟩ := List.getElem?_eq_some_iff.1 e
  rw [nth_eq h2, nth_eq hi, e2]
def within (n : Int) : Int := if 65536 < (if n < 0 then 0 else n) then 65536 else (if n < 0 then 0 else n)
theorem within_id {n : Int} (h : 0 ≤ n ∧ n ≤ 65536) : within n = n := by unfold within; rw [if_neg (show ¬ n < 0 by omega), if_neg (by omega)]
theorem within_in (n : Int) : 0 ≤ within n ∧ within n ≤ 65536 := by unfold within; split <;> split <;> omega
theorem q_bits_nat (x m : Nat) (hx : x < 18446744073709551616) (hm : m < 18446744073709551616) : bits .and .u64 (x : Int) (m : Int) = ((x &&& m : Nat) : Int) := by
  have h1 : (BitVec.ofInt 64 (x : Int)).toNat = x := by rw [BitVec.toNat_ofInt]; omega
  have h2 : (BitVec.ofInt 64 (m : Int)).toNat = m := by rw [BitVec.toNat_ofInt]; omega
  show IntKind.wrap .u64 (((BitVec.ofInt 64 (x : Int) &&& BitVec.ofInt 64 (m : Int)).toNat : Nat) : Int) = _
  rw [BitVec.toNat_and, h1, h2]
  exact wrap_u64 (by have := Nat.and_lt_two_pow (n := 64) x (y := m) (by omega); omega)
theorem place_at {i n : Nat} (hp : ∃ k, k ≤ 17 ∧ n = 2 ^ k) (hi : i < n) : bits .and .u64 (IntKind.wrap .u64 (0 + IntKind.wrap .u64 (i : Int))) (IntKind.wrap .u64 (IntKind.wrap .i64 ((n : Int) - 1))) = (i : Int) := by
  obtain ⟨k, hk, rfl⟩ := hp
  have h17 : 2 ^ k ≤ 2 ^ 17 := Nat.pow_le_pow_right (by decide) hk
  have h0 : 0 < 2 ^ k := Nat.pos_of_ne_zero (by simp)
  have e1 : IntKind.wrap .u64 (0 + IntKind.wrap .u64 (i : Int)) = ((i : Nat) : Int) := by rw [wrap_u64 (x := (i : Int)) (by omega), Int.zero_add, wrap_u64 (by omega)]
  have e2 : IntKind.wrap .u64 (IntKind.wrap .i64 (((2 ^ k : Nat) : Int) - 1)) = ((2 ^ k - 1 : Nat) : Int) := by rw [wrap_i64 (by omega), wrap_u64 (by omega)]; omega
  rw [e1, e2, q_bits_nat _ _ (by omega) (by omega), Nat.and_two_pow_sub_one_eq_mod, Nat.mod_eq_of_lt hi]
theorem shl_one {n : Nat} (h : n ≤ 65536) : IntKind.wrap .i64 ((n : Int) * 2 ^ min (1 : Int).toNat (IntKind.bits .i64)) = ((2 * n : Nat) : Int) := by
  have : min (1 : Int).toNat (IntKind.bits .i64) = 1 := by decide
  rw [this, wrap_i64 (by omega)]; omega
def growN (n : Nat) : Nat := if n = 0 then 1 else 2 * n
theorem grow_eq {n : Nat} (h : n ≤ 65536) : (if (1 : Int) < IntKind.wrap .i64 ((n : Int) * 2 ^ min (1 : Int).toNat (IntKind.bits .i64)) then IntKind.wrap .i64 ((n : Int) * 2 ^ min (1 : Int).toNat (IntKind.bits .i64)) else 1) = ((growN n : Nat) : Int) := by
  rw [shl_one h]
  unfold growN
  split <;> split <;> omega
theorem grow_pow {n : Nat} (h : n ≤ 65536) (hp : n = 0 ∨ ∃ k, k ≤ 17 ∧ n = 2 ^ k) : ∃ k, k ≤ 17 ∧ growN n = 2 ^ k := by
  unfold growN
  rcases hp with rfl | ⟨k, hk, rfl⟩
  · exact ⟨0, by decide, rfl⟩
  · have h0 : 2 ^ k ≠ 0 := by simp
    rw [if_neg h0]
    refine ⟨k + 1, ?_, by rw [Nat.pow_succ]; omega⟩
    refine Nat.le_of_lt_succ (Nat.lt_of_not_le fun h2 => ?_)
    have : 2 ^ 17 ≤ 2 ^ k := Nat.pow_le_pow_right (by decide) (by omega)
    omega
theorem QOk.put {room : Int} {c l : List Int} {x : Int} (h0 : 0 ≤ room) (h1 : room ≤ 65536) (hl : (l.length : Int) < room) (hc : l.length < c.length) (ht : c.take l.length = l) (hp : ∃ k, k ≤ 17 ∧ c.length = 2 ^ k) : QOk room (c.set l.length x) (l ++ [x]) := by
  refine ⟨h0, h1, by simp; omega, by simp; omega, ?_, .inr (by simpa using hp)⟩
  rw [List.length_append, List.length_singleton, take_nth (by rw [List.length_set]; exact hc), List.take_set_of_le (Nat.le_refl _), ht, nth_eq (by rw [List.length_set]; exact hc), List.getElem_set_self]
theorem QOk.new (n : Int) : QOk (within n) [] [] := ⟨(within_in n).1, (within_in n).2, (within_in n).1, Nat.le_refl _, rfl, .inl rfl⟩
def pushW (room : Int) (l : List Int) : Int := if room - l.length = 0 then 2 else 0
def pushL (room : Int) (l : List Int) (x : Int) : List Int := if room - l.length = 0 then l else l ++ [x]

theorem within_c (n : Int) : FnP Try.prog 78 [.int .i64 n] (.int .i64 (within n)) := by
  refine FnP.mk Try.func78 rfl Try.ntmps78 rfl ?_
  intro B a w F hB hfr hS
  refine wp_seq ?_
  refine region_q hS
    (cF rfl (oN (.ci (by kernel_rfl))) trivial trivial
    Chain.nil)
    hB ?_
  clear hS; intro a w F hS
  obtain ⟨F, hS⟩ := hS.nm [2, 0] [0] rfl rfl
  try dsimp only [rInt] at hS
  refine then_n (wp_seq ?_)
  refine region_q hS
    (cF rfl (oM .t) r1 trivial
    (cF rfl (o_max .t (.ci (by kernel_rfl))) r1 trivial
    (cF rfl (o_min .t (.ci (by kernel_rfl))) r1 trivial
    (cF rfl (oN .t) r1 trivial
    Chain.nil))))
    hB ?_
  clear hS; intro a w F hS
  obtain ⟨F, hS⟩ := hS.nm [2] [0] rfl rfl
  try dsimp only [rInt] at hS
  refine then_n (wp_ret ?_)
  refine ret_P hfr hS rfl (.tmp rfl .nil) (.one .refl)

theorem qplace_c (c : List Int) (room : Int) (n i : Nat) (hp : ∃ k, k ≤ 17 ∧ c.length = 2 ^ k) (hi : i < c.length) : FnP Try.prog 83 [.ref [.int .i64 room, .sl rInt c, .int .u64 0, .int .i64 n], .int .i64 i] (.int .u64 (i : Int)) := by
  refine FnP.mk Try.func83 rfl Try.ntmps83 rfl ?_
  intro B a w F hB hfr hS
  refine wp_seq ?_
  refine region_q hS
    (cF rfl (oN (.ci (by kernel_rfl))) trivial trivial
    Chain.nil)
    hB ?_
  clear hS; intro a w F hS
  obtain ⟨F, hS⟩ := hS.nm [4, 1, 0] [0] rfl rfl
  try dsimp only [rInt] at hS
  refine then_n (wp_seq ?_)
  refine region_any (by kernel_rfl) hS (by kernel_rfl)
    (cF rfl (oM .t) r1 trivial
    (cF rfl (o_nilCheck_ref .t) r1 trivial
    (cF rfl (oG 2 .t) r1 trivial
    (cF rfl (oR false 1 .t) r1 trivial
    (cF rfl (oM .t) r1 trivial
    (cF rfl (o_conv Try.underlying135 (by kernel_rfl) .t) r1 trivial
    (cF rfl (o_add .t .t) r2 trivial
    (cF rfl (oM .t) r1 trivial
    (cF rfl (o_nilCheck_ref .t) r1 trivial
    (cF rfl (oG 1 .t) r1 trivial
    (cF rfl (oR false 1 .t) r1 trivial
    (cF rfl (o_len_sl Try.underlying61 .t) r1 trivial
    (cF rfl (o_sub .t (.ci (by kernel_rfl))) r1 trivial
    (cF rfl (o_conv Try.underlying135 (by kernel_rfl) .t) r1 trivial
    (cF rfl (o_and .t .t) r2 trivial
    (cF rfl (oN .t) r1 trivial
    Chain.nil))))))))))))))))
    (by kernel_rfl) (by rw [hB]; kernel_rfl) ?_
  clear hS; intro a w F hS
  obtain ⟨F, hS⟩ := hS.nm [4] [0] rfl rfl
  try dsimp only [List.map, xD, xE, xT, xU, ldSF, rInt] at hS
  refine then_n (wp_ret ?_)
  refine ret_P hfr hS rfl (.tmp rfl .nil) (.one (.int (place_at hp hi)))

theorem qlen_c (room n : Int) (p q : PV) : FnP Try.prog 88 [.ref [.int .i64 room, p, q, .int .i64 n]] (.int .i64 n) := by
  refine FnP.mk Try.func88 rfl Try.ntmps88 rfl ?_
  intro B a w F hB hfr hS
  refine wp_seq ?_
  refine region_q hS
    (cF rfl (oN (.ci (by kernel_rfl))) trivial trivial
    Chain.nil)
    hB ?_
  clear hS; intro a w F hS
  obtain ⟨F, hS⟩ := hS.nm [2, 0] [0] rfl rfl
  try dsimp only [rInt] at hS
  refine then_n (wp_seq (wp_seq ?_))
  refine region_q hS
    (cF rfl (oM .t) r1 trivial
    (cF rfl (o_ref_eql Try.underlying62 .t) r1 trivial
    Chain.nil))
    hB ?_
  clear hS; intro a w F hS
  obtain ⟨F, hS⟩ := hS.nm [4, 2, 0] [0] rfl rfl
  try dsimp only [rInt] at hS
  refine then_n ?_
  refine cond_b hS rfl (fun hc0 => ?_) (fun hc0 => ?_)
  ·skip
   simp at hc0
  refine wp_skip (then_n (wp_seq ?_))
  refine region_q hS
    (cF rfl (oM .t) r1 trivial
    (cF rfl (o_nilCheck_ref .t) r1 trivial
    (cF rfl (oG 3 .t) r1 trivial
    (cF rfl (oR false 1 .t) r1 trivial
    (cF rfl (oN .t) r1 trivial
    Chain.nil)))))
    hB ?_
  clear hS; intro a w F hS
  obtain ⟨F, hS⟩ := hS.nm [2] [0] rfl rfl
  try dsimp only [List.map, xD, xE, xT, xU, ldSF, rInt] at hS
  refine then_n (wp_ret ?_)
  refine ret_P hfr hS rfl (.tmp rfl .nil) (.one .refl)

theorem qroom_c (room n : Int) (p q : PV) (hr : 0 ≤ room ∧ room ≤ 65536) (hn : 0 ≤ n ∧ n ≤ 65536) : FnP Try.prog 82 [.ref [.int .i64 room, p, q, .int .i64 n]] (.int .i64 (room - n)) := by
  refine FnP.mk Try.func82 rfl Try.ntmps82 rfl ?_
  intro B a w F hB hfr hS
  refine wp_seq ?_
  refine region_q hS
    (cF rfl (oN (.ci (by kernel_rfl))) trivial trivial
    Chain.nil)
    hB ?_
  clear hS; intro a w F hS
  obtain ⟨F, hS⟩ := hS.nm [2, 0] [0] rfl rfl
  try dsimp only [rInt] at hS
  refine then_n (wp_seq (wp_seq ?_))
  refine region_q hS
    (cF rfl (oM .t) r1 trivial
    (cF rfl (o_ref_eql Try.underlying62 .t) r1 trivial
    Chain.nil))
    hB ?_
  clear hS; intro a w F hS
  obtain ⟨F, hS⟩ := hS.nm [4, 2, 0] [0] rfl rfl
  try dsimp only [rInt] at hS
  refine then_n ?_
  refine cond_b hS rfl (fun hc0 => ?_) (fun hc0 => ?_)
  ·skip
   simp at hc0
  refine wp_skip (then_n (wp_seq ?_))
  refine region_any (by kernel_rfl) hS (by kernel_rfl)
    (cF rfl (oM .t) r1 trivial
    (cF rfl (o_nilCheck_ref .t) r1 trivial
    (cF rfl (oG 0 .t) r1 trivial
    (cF rfl (oR false 1 .t) r1 trivial
    (cF rfl (oM .t) r1 trivial
    (cF rfl (o_nilCheck_ref .t) r1 trivial
    (cF rfl (oG 3 .t) r1 trivial
    (cF rfl (oR false 1 .t) r1 trivial
    (cF rfl (o_sub .t .t) r2 trivial
    (cF rfl (oN .t) r1 trivial
    Chain.nil))))))))))
    (by kernel_rfl) (by rw [hB]; kernel_rfl) ?_
  clear hS; intro a w F hS
  obtain ⟨F, hS⟩ := hS.nm [2] [0] rfl rfl
  try dsimp only [List.map, xD, xE, xT, xU, ldSF, rInt] at hS
  refine then_n (wp_ret ?_)
  refine ret_P hfr hS rfl (.tmp rfl .nil) (.one (.int (wrap_i64 (by omega))))

end Go.Proofs.Ytdfidiehkkbimaa
