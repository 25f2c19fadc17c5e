/- Slices of uint64. No condition beyond those that each theorem says. -/
import Derived.Test.YtfdjjfplhdpclaaMu0
namespace Go.Proofs.Ytfdjjfplhdpclaa
open Go Go.Gm
set_option linter.unusedVariables false
set_option linter.unusedSimpArgs false
set_option maxHeartbeats 4000000
set_option maxRecDepth 8000


theorem wrapU {x : Int} (h : 0 ≤ x ∧ x ≤ 18446744073709551615) : IntKind.wrap .u64 x = x := wrap_id ⟨by simp [IntKind.min, IntKind.signed, IntKind.bits]; omega, by simp [IntKind.max, IntKind.signed, IntKind.bits]; omega⟩
theorem mid_shr {i j : Nat} (h : i + j ≤ 2000000) : IntKind.wrap .i64 ((IntKind.wrap .u64 (IntKind.wrap .i64 ((i : Int) + (j : Int)))).fdiv (2 ^ min (1 : Int).toNat (IntKind.bits .u64))) = (((i + j) / 2 : Nat) : Int) := by
  rw [wrap_i64 (x := (i : Int) + (j : Int)) (by omega), wrapU (by omega), show (2 : Int) ^ min (1 : Int).toNat (IntKind.bits .u64) = 2 by decide, Int.fdiv_eq_ediv_of_nonneg _ (by decide), wrap_i64 (by omega)]
  omega
def isK {α : Type} (κ : α → Int) (k : Int) (l : List α) : Bool := l.any fun x => decide (κ x = k)
theorem isK_eq {α : Type} [Inhabited α] {κ : α → Int} {k : Int} {l : List α} {i : Nat} (hi : i ≤ l.length) (hs : Rise κ l) (h1 : ∀ q, q < i → κ (Go.Gm.nth l q) < k) (h2 : ∀ q, i ≤ q → q < l.length → k ≤ κ (Go.Gm.nth l q)) : isK κ k l = true ↔ i < l.length ∧ κ (Go.Gm.nth l i) = k := by
  unfold isK
  rw [List.any_eq_true]
  constructor
  · rintro ⟨x, hx, hk⟩
    obtain ⟨q, hq, e⟩ := List.getElem_of_mem hx
    have hk' : κ (Go.Gm.nth l q) = k := by rw [nth_eq hq, e]; simpa using hk
    have hiq : i ≤ q := Nat.le_of_not_lt fun h => by have := h1 q h; omega
    rcases Nat.lt_or_eq_of_le hiq with h | h
    · have a1 := hs i q h hq
      have a2 := h2 i (Nat.le_refl _) (by omega)
      omega
    · subst h; exact ⟨hq, hk'⟩
  · rintro ⟨h3, h4⟩
    exact ⟨_, nth_mem h3, by simpa using h4⟩

theorem Sat.shrink {B : Base} {E : En} {a : Act} {w : World} {F : Fp} {r r' : RS} (h : Sat B E a w F) (n : Nat) (hl : Go.Gm.look E.r n = some r) (hd : noDeps r'.deps = true) (hr : ∀ τ w f y, r.holds τ w f y → ∃ f' : Ys, (∀ b, f' b → f b) ∧ r'.holds τ w f' y) : ∃ F', Sat B ⟨E.s, (n, r') :: E.r⟩ a w F' := by
  obtain ⟨f', hf, hh⟩ := hr _ _ _ _ (h.r n r hl)
  have hle : ∀ b, U (fun m => if m = n then f' else F m) b → U F b := fun b ⟨m, hm⟩ => by
    by_cases e : m = n
    · simp only [e, if_true] at hm; exact ⟨n, hf b hm⟩
    · simp only [e, if_false] at hm; exact ⟨m, hm⟩
  have hev := Ev.less w hle
  have hsub : ∀ m b, (if m = n then f' else F m) b → F m b := fun m b hm => by
    by_cases e : m = n
    · simp only [e, if_true] at hm; rw [e]; exact hf b hm
    · simp only [e, if_false] at hm; exact hm
  refine ⟨fun m => if m = n then f' else F m, ⟨fun i k b hi hk => h.wf.dis i k b (hsub i b hi) (hsub k b hk), fun i b hi => h.wf.bd i b (hsub i b hi)⟩, h.ev.trans hev, h.n, h.df, fun j s hj => SF.mono hev (fun _ _ => rfl) (h.s j s hj), fun i r2 hi => ?_, fun i b hi => ?_⟩
  · rw [look_cons] at hi
    split at hi
    · rename_i e
      simp only [Option.some.injEq] at hi; subst hi; subst e
      simp only [if_true]
      exact RS.mono hev (fun _ _ => rfl) (fun _ _ => rfl) hh
    · rename_i e
      simp only [show i ≠ n from fun k => e k.symm, if_false]
      exact RS.mono hev (fun _ _ => rfl) (fun _ _ => rfl) (h.r i r2 hi)
  · rw [look_cons]
    split
    · exact ⟨_, rfl⟩
    · exact h.em i b (hsub i b hi)

theorem inRu0 : inR .u64 0 := by show IntKind.min .u64 ≤ 0 ∧ 0 ≤ IntKind.max .u64; decide
theorem rise_inc {l : List Int} (h : IncI l) : Rise (fun x : Int => x) l := fun a b hab hb => by
  rw [nth_eq (by omega), nth_eq hb]
  exact List.pairwise_iff_getElem.1 h a b (by omega) hb hab
theorem isI_mem {k : Int} {l : List Int} : isK (fun x : Int => x) k l = decide (k ∈ l) := by
  unfold isK
  rw [Bool.eq_iff_iff, List.any_eq_true, decide_eq_true_eq]
  constructor
  · rintro ⟨x, hx, h⟩; have := of_decide_eq_true h; exact this ▸ hx
  · intro h; exact ⟨k, h, by simp⟩
theorem free_ib {i : Int} {b : Bool} : Free (.pv (.tup [.int .i64 i, .bool b])) := fun τ w y y' v ⟨vs, e, h⟩ => ⟨vs, e, by
  match vs, h with
  | [a, b], h => exact h⟩
theorem low_le {k : Int} {l : List Int} : lowI k l ≤ l.length := by unfold lowI lowK; exact (List.takeWhile_sublist _).length_le
abbrev MP2 (es : List (GE Int (Value × List Int))) (ck : Nat) : Value → HP := mapG (fun p : Value × List Int => PV.is p.1) (fun _ : Int => True) (fun n : Int => Value.int .i64 n) es ck
abbrev MP1 (es : List (GE Int Int)) (ck : Nat) : Value → HP := mapG (fun c : Int => PV.int .i32 c) (fun _ : Int => True) (fun n : Int => Value.int .u64 n) es ck
/-- The row at a key is put back as it was. -/
theorem Sat.backKey {α : Type} {T sz : Nat} {R : α → List PV} {B : Base} {E : En} {a : Act} {w : World} {F : Fp} {es : List (GE Int (Value × List α))} (h : Sat B E a w F) (n i : Nat) (k : Int) (hl : Go.Gm.look E.r n = some (famG T sz R (gDel k es))) (hi : Go.Gm.look E.r i = some (.ob (.val ((gGet k es).getD noRow).1) (rowH T sz R ((gGet k es).getD noRow).2))) (hne : Nat.beq n i = false) :
    ∃ F', Sat B ⟨E.s, (n, famG T sz R es) :: (i, RS.hp (HP.star [])) :: E.r⟩ a w F' := by
  have hni : n ≠ i := fun e => by subst e; simp at hne
  cases hx : gIdx k es with
  | some j =>
    obtain ⟨e, h1, h2, h3⟩ := gIdx_at hx
    rw [h3] at hi
    have h0 := h.turn i hi (r' := RS.hp (rowG Int T sz R e)) (fun _ _ _ _ k => k)
    rw [gDel_erase hx] at hl
    obtain ⟨F', hS⟩ := h0.putBack (rowG Int T sz R) (L := es) (x := e) n i j h1 (by rw [look_cons, if_neg (fun e => hni e.symm)]; exact hl) (by rw [look_cons, if_pos rfl]) hne
    refine ⟨F', hS.congr (fun _ => rfl) (fun m => ?_)⟩
    simp only [look_cons]
    by_cases e1 : n = m
    · simp [e1]
    · by_cases e2 : i = m
      · simp [e1, e2]
      · simp [e1, e2]
  | none =>
    rw [gDel_none hx] at hl
    obtain ⟨F', hS⟩ := Sat.shrink h i (r' := RS.hp (HP.star [])) hi rfl (fun τ w f y _ => ⟨fun _ => False, fun _ h => h.elim, fun b h => h⟩)
    have h2 := hS.turn n (r := famG T sz R es) (by rw [look_cons, if_neg (fun e => hni e.symm)]; exact hl) (r' := famG T sz R es) (fun _ _ _ _ k => k)
    exact ⟨F', h2⟩
def rowsH (v : Value) (f : Int → List Int) : HP := .ex fun s : List (GE Int (Value × List Int)) × Nat => .and (∀ id, ((gGet id s.1).getD noRow).2 = f id) (.star [.ob (.val v) (MP2 s.1 s.2), famG 49 1 rU64 s.1])
def setF (f : Int → List Int) (id x : Int) (on : Bool) (j : Int) : List Int := if j = id then setN (f id) x on else f j
theorem setF_put {f : Int → List Int} {es : List (GE Int (Value × List Int))} {ck : Nat} (h : ∀ id, ((gGet id es).getD noRow).2 = f id) (id x : Int) (on : Bool) (v : Value) : ∀ j, ((gGet j (gPut id (v, setN (f id) x on) (es, ck)).1).getD noRow).2 = setF f id x on j := fun j => by
  rw [gGet_put]
  unfold setF
  by_cases e : j = id
  · rw [if_pos e, if_pos e]; rfl
  · rw [if_neg e, if_neg e]; exact h j
theorem setF_same {f : Int → List Int} {id x : Int} {on : Bool} (h : setN (f id) x on = f id) : setF f id x on = f := funext fun j => by
  unfold setF
  split
  · rename_i e; subst e; exact h
  · rfl
theorem IsKeyOf.intU {x : Operand} {ps : List (Nat × SF)} {n : Int} {k : Int} (h : Opd x ps (.pv (.int .u64 n))) (e : n = k) : IsKeyOf (fun _ => True) (fun n : Int => Value.int .u64 n) x ps k := fun a w yy hp => by
  subst e
  exact ⟨(h a w yy hp).1, trivial⟩

theorem cells_made {α : Type} {R : α → List PV} {zs : List Value} {sz : Nat} {v : α} (hz : zs.length = sz) (h0 : 0 < sz) (hp : ∀ w yy, PVs (R v) zs w yy) (n : Nat) : ∀ u ∈ (madeCells zs.toArray (n * sz)).toList, u.oneCell' = true :=
  (made_pvs (R := R) (v := v) hz h0 (hp (default : World) (fun _ => False)) n).one
theorem ins_end {α : Type} {l : List α} {i : Nat} {x : α} (h : i = l.length) : l.take i ++ [x] ++ l.drop i = l ++ [x] := by rw [h]; simp
theorem ins_grow {α : Type} {l l2 l3 : List α} {i : Nat} {x z : α} (hi : i < l.length) (h2 : l2 = l.take i ++ List.replicate (l.length + 1 - i) z) (h3 : l3 = l2.take i ++ [x] ++ l2.drop (i + [x].length)) :
    l.take i ++ [x] ++ l.drop i = l3.take (i + 1) ++ l.drop i ++ l3.drop (i + 1 + (l.drop i).length) := by
  have e1 : l2.take i = l.take i := by
    rw [h2, List.take_append_of_le_length (by rw [List.length_take]; omega), List.take_take, Nat.min_self]
  have e0 : l2.length = l.length + 1 := by rw [h2, List.length_append, List.length_take, List.length_replicate]; omega
  have e2 : l3.take (i + 1) = l.take i ++ [x] := by
    rw [h3, e1, List.take_append_of_le_length (by rw [List.length_append, List.length_take]; simp; omega), List.take_of_length_le (by rw [List.length_append, List.length_take]; simp; omega)]
  have e3 : l3.length = l.length + 1 := by
    rw [h3, e1, List.length_append, List.length_append, List.length_take, List.length_drop, e0]; simp; omega
  have e4 : l3.drop (i + 1 + (l.drop i).length) = [] := List.drop_eq_nil_of_le (by rw [e3, List.length_drop]; omega)
  rw [e2, e4, List.append_nil]
theorem ins_place {α : Type} {l l4 : List α} {i : Nat} {x : α} (hi : i < l.length) (h4 : l4 = l.take (i + 1) ++ l.drop i) : l.take i ++ [x] ++ l.drop i = l4.take i ++ [x] ++ l4.drop (i + [x].length) := by
  have e1 : l4.take i = l.take i := by
    rw [h4, List.take_append_of_le_length (by rw [List.length_take]; omega), List.take_take, Nat.min_eq_left (by omega)]
  have e2 : l4.drop (i + [x].length) = l.drop i := by
    rw [h4, show i + [x].length = i + 1 from rfl, List.drop_append_of_le_length (by rw [List.length_take]; omega), List.drop_eq_nil_of_le (by rw [List.length_take]; omega), List.nil_append]
  rw [e1, e2]

theorem insU_c (v : Value) (l : List Int) (i : Nat) (x : Int) (hll : l.length ≤ 1000000) (hi : i ≤ l.length) : FnG Try.prog 33 1 [.is v, .int .i64 i, .sl rU64 [x]] [rowH 49 1 rU64 l v] (PV.one) (fun v => [rowH 49 1 rU64 (l.take i ++ [x] ++ l.drop i) v]) := by
  refine FnG.mk Try.func33 rfl Try.ntmps33 rfl (by kernel_rfl) ?_
  intro B F0 a w F hB hG hS
  replace hS := hS.turn 1 rfl (r' := .ob (.val v) (rowH 49 1 rU64 l)) (fun _ _ _ _ h => h)
  refine wp_seq ?_
  refine region_q hS
    (cF rfl (oN (.c rfl)) trivial trivial
    Chain.nil)
    hB ?_
  clear hS; intro a w F hS
  obtain ⟨F, hS⟩ := hS.nm [6, 2, 1, 0] [1, 0] rfl rfl
  try dsimp only [rU64] at hS
  refine then_n (wp_seq ?_)
  refine region_q hS
    (cF rfl (oM .t) r1 trivial
    (cF rfl (oM .t) r1 trivial
    (cF rfl (o_sub_any (sz := 1) 1 (.mk Try.underlying58 (by kernel_rfl)) .is .t (by omega) (by omega)) r2 r1
    Chain.nil)))
    hB ?_
  clear hS; intro a w F hS
  obtain ⟨F, hS⟩ := hS.nm [6, 2, 1, 0] [1, 0] rfl rfl
  try dsimp only [rU64] at hS
  refine then_n (wp_seq ?_)
  refine region_q hS
    (cF rfl (oM .t) r1 trivial
    (cF rfl (o_len_sl Try.underlying58 .t) r1 trivial
    (cF rfl (oN .t) r1 trivial
    Chain.nil)))
    hB ?_
  clear hS; intro a w F hS
  obtain ⟨F, hS⟩ := hS.nm [7, 6, 2, 1, 0] [1, 0] rfl rfl
  try dsimp only [rU64] at hS
  replace hS := hS.ent (i := 7) (s' := .pv (.int .i64 1)) rfl (.int rfl)
  obtain ⟨F, hS⟩ := hS.nm [7, 6, 2, 1, 0] [1, 0] rfl rfl
  refine then_n (wp_seq (wp_seq ?_))
  refine region_q hS
    (cF rfl (oM .t) r1 trivial
    (cF rfl (o_eql .t (.ci (by kernel_rfl))) r1 trivial
    Chain.nil))
    hB ?_
  clear hS; intro a w F hS
  obtain ⟨F, hS⟩ := hS.nm [16, 7, 6, 2, 1, 0] [1, 0] rfl rfl
  try dsimp only [rU64] at hS
  refine then_n ?_
  refine cond_b hS rfl (fun hc0 => ?_) (fun hc0 => ?_)
  ·skip
   simp at hc0
  refine wp_skip (then_n (wp_seq ?_))
  refine region_q hS
    (cF rfl (oM .t) r1 trivial
    (cF rfl (o_len_row 1 Try.underlying58 .is) r1 r1
    (cF rfl (oN .t) r1 trivial
    Chain.nil)))
    hB ?_
  clear hS; intro a w F hS
  obtain ⟨F, hS⟩ := hS.nm [8, 7, 6, 2, 1, 0] [1, 0] rfl rfl
  try dsimp only [rU64] at hS
  refine then_n (wp_seq (wp_seq ?_))
  refine region_q hS
    (cF rfl (oM .t) r1 trivial
    (cF rfl (oM .t) r1 trivial
    (cF rfl (o_eql .t .t) r2 trivial
    Chain.nil)))
    hB ?_
  clear hS; intro a w F hS
  obtain ⟨F, hS⟩ := hS.nm [22, 8, 7, 6, 2, 1, 0] [1, 0] rfl rfl
  try dsimp only [rU64] at hS
  refine then_n ?_
  refine cond_b hS rfl (fun hc1 => ?_) (fun hc1 => ?_)
  ·skip
   have hg := ins_end (x := x) (by have h9 := hc1; simp at h9; omega : i = l.length)
   refine wp_seq ?_
   refine region_q hS
     (cF rfl (oM .t) r1 trivial
     (cF rfl (oM .t) r1 trivial
     (cF rfl (o_append (sz := 1) (bs := 8) 1 (.mk' Try.underlying58 (by kernel_rfl) (by kernel_rfl)) (by intro x; rfl) .is (.sl .t) (by simp only [List.length_cons, List.length_nil]; omega) (by decide)) ⟨rfl, rfl, trivial⟩ ⟨rfl, trivial⟩
     (cF rfl (oN .t) r1 trivial
     Chain.nil))))
     hB ?_
   clear hS; intro a w F hS
   replace hS := hS.sub
   obtain ⟨F, hS⟩ := hS.nm [8, 7, 6, 2, 1, 0] [1, 0] rfl rfl
   try dsimp only [RS.sub, SF.sub, CF.sub, csub, Anc.sub, List.map, xC, xN, rU64] at hS
   generalize Act.tau a 25 = v25 at hS
   refine then_n (wp_ret (then_r ?_))
   have hS := hS.turn 1 rfl (r' := RS.hp (rowH 49 1 rU64 (l.take i ++ [x] ++ l.drop i) v25)) (fun _ _ _ _ h => by rw [hg]; exact h)
   refine ret_N1 (h' := fun v => rowH 49 1 rU64 (l.take i ++ [x] ++ l.drop i) v) hG hS rfl (.tmp rfl .nil) (.one .one) rfl
  have hil : i < l.length := by simp at hc1; omega
  have hw1 : IntKind.wrap .i64 ((i : Int) + 1) = ((i + 1 : Nat) : Int) := wrap_succ (by omega)
  have hwn : IntKind.wrap .i64 ((l.length : Int) + 1) = ((l.length + 1 : Nat) : Int) := wrap_succ (by omega)
  refine wp_skip (then_n (wp_seq (wp_seq ?_)))
  refine region_q hS
    (cF rfl (oM .t) r1 trivial
    (cF rfl (oM .t) r1 trivial
    (cF rfl (o_add .t .t) r2 trivial
    (cF rfl (oM .t) r1 trivial
    (cF rfl (o_cap_row 1 Try.underlying58 .is) r1 r1
    (cF rfl (o_gtr .t .t) r2 trivial
    Chain.nil))))))
    hB ?_
  clear hS; intro a w F hS
  obtain ⟨F, hS⟩ := hS.nm [31, 8, 7, 6, 2, 1, 0] [1, 0] rfl rfl
  try dsimp only [rU64] at hS
  refine then_n ?_
  refine cond_b hS rfl (fun hc2 => ?_) (fun hc2 => ?_)
  ·skip
   have hcap : capV v < l.length + 1 := by rw [hwn] at hc2; simp at hc2; omega
   have hw : IntKind.wrap .i64 (IntKind.wrap .i64 ((l.length : Int) + 1) - (i : Int)) = ((l.length + 1 - i : Nat) : Int) := by rw [hwn, wrap_i64 (by omega)]; omega
   refine wp_seq ?_
   refine region_q hS
     (cF rfl (oM .t) r1 trivial
     (cF rfl (oM .t) r1 trivial
     (cF rfl (o_head_row (sz := 1) 1 (.mk Try.underlying58 (by kernel_rfl)) .is .t (by omega) (by omega)) r2 r1
     (cF rfl (oM .t) r1 trivial
     (cF rfl (oM .t) r1 trivial
     (cF rfl (o_add .t .t) r2 trivial
     (cF rfl (oM .t) r1 trivial
     (cF rfl (o_sub .t .t) r2 trivial
     (cF rfl (o_append_zeros (R := rU64) (z := (0 : Int)) (bs := 8) (sz := 1) (zs := [.int .u64 0]) 1 101 Try.underlying58 Try.underlying3 (by kernel_rfl) (by kernel_rfl) (by kernel_rfl) (by intro x; rfl) (fun _ _ => ⟨⟨rfl, rfl, inRu0⟩, trivial⟩) .t .t (by omega) (by rw [hw]; omega) (by rw [hw]; omega) (by rw [hw]; omega) (by rw [hw]; omega)) ⟨rfl, rfl, trivial⟩ ⟨rfl, trivial⟩
     (cF rfl (oN .t) r1 trivial
     Chain.nil))))))))))
     hB ?_
   clear hS; intro a w F hS
   replace hS := hS.sub
   obtain ⟨F, hS⟩ := hS.nm [9, 8, 7, 6, 2, 1, 0] [101, 1, 0] rfl rfl
   try dsimp only [RS.sub, SF.sub, CF.sub, csub, Anc.sub, List.map, xC, xN, rU64] at hS
   generalize Act.tau a 40 = v40 at hS
   rw [hw] at hS
   simp only [Int.toNat_natCast] at hS
   obtain ⟨l2, hl2⟩ : ∃ y, y = l.take i ++ List.replicate (l.length + 1 - i) (0 : Int) := ⟨_, rfl⟩
   rw [← hl2] at hS
   have hl2n : l2.length = l.length + 1 := by rw [hl2, List.length_append, List.length_take, List.length_replicate]; omega
   obtain ⟨F, hS⟩ := hS.give 1 0 rfl rfl
   obtain ⟨F, hS⟩ := hS.nm [9, 8, 7, 6, 2, 1, 0] [101, 0] rfl rfl
   refine then_n (wp_seq ?_)
   refine region_q hS
     (cF rfl (oM .t) r1 trivial
     (cF rfl (oM .t) r1 trivial
     (cF rfl (o_sub_row (sz := 1) 101 (.mk Try.underlying58 (by kernel_rfl)) .is .t (by omega) (by omega)) r2 r1
     (cF rfl (oM .t) r1 trivial
     (cF rfl (o_copy_sub 101 Try.underlying58 (by kernel_rfl) (by intro x; rfl) .t .t (by simp) (by simp; omega)) r2 r1
     Chain.nil)))))
     hB ?_
   clear hS; intro a w F hS
   obtain ⟨F, hS⟩ := hS.nm [9, 8, 7, 6, 2, 1, 0] [101, 0] rfl rfl
   try dsimp only [rU64] at hS
   simp only [Int.toNat_natCast] at hS
   obtain ⟨l3, hl3⟩ : ∃ y, y = l2.take i ++ [x] ++ l2.drop (i + [x].length) := ⟨_, rfl⟩
   rw [← hl3] at hS
   have hl3n : l3.length = l.length + 1 := by rw [hl3, List.length_append, List.length_append, List.length_take, List.length_drop, hl2n]; simp; omega
   refine then_n (wp_seq ?_)
   refine region_any (by kernel_rfl) hS (by kernel_rfl)
     (cF rfl (oM .t) r1 trivial
     (cF rfl (oM .t) r1 trivial
     (cF rfl (oM .t) r1 trivial
     (cF rfl (o_add .t .t) r2 trivial
     (cF rfl (o_sub_row (sz := 1) 101 (.mk Try.underlying58 (by kernel_rfl)) .is .t (by rw [hw1]; omega) (by rw [hw1]; omega)) r2 r1
     (cF rfl (oM .t) r1 trivial
     (cF rfl (oM .t) r1 trivial
     (cF rfl (o_slice_lo (sz := 1) (.mk Try.underlying58 (by kernel_rfl)) (by intro x; rfl) .t .t (by omega) (by omega)) r2 trivial
     (cF rfl (o_copy_sub 101 Try.underlying58 (by kernel_rfl) (by intro x; rfl) .t .t (by intro h9; have := congrArg List.length h9; simp at this; omega) (by rw [hw1, List.length_drop]; omega)) r2 r1
     Chain.nil)))))))))
     (by kernel_rfl) (by rw [hB]; kernel_rfl) ?_
   clear hS; intro a w F hS
   obtain ⟨F, hS⟩ := hS.nm [9, 8, 7, 6, 2, 1, 0] [101, 0] rfl rfl
   try dsimp only [rU64] at hS
   rw [hw1] at hS
   simp only [Int.toNat_natCast] at hS
   have hg := ins_grow (x := x) hil hl2 hl3
   refine then_n (wp_seq ?_)
   refine region_q hS
     (cF rfl (oM .t) r1 trivial
     (cF rfl (oN .t) r1 trivial
     Chain.nil))
     hB ?_
   clear hS; intro a w F hS
   obtain ⟨F, hS⟩ := hS.nm [8, 7, 6, 2, 1, 0] [101, 0] rfl rfl
   try dsimp only [rU64] at hS
   refine then_n (wp_ret (then_r ?_))
   obtain ⟨F, hS⟩ := hS.rename 101 1 rfl rfl
   have hS := hS.turn 1 rfl (r' := RS.hp (rowH 49 1 rU64 (l.take i ++ [x] ++ l.drop i) v40)) (fun _ _ _ _ h => by rw [hg]; exact h)
   refine ret_N1 (h' := fun v => rowH 49 1 rU64 (l.take i ++ [x] ++ l.drop i) v) hG hS rfl (.tmp rfl .nil) (.one .one) rfl
  have hcap : l.length + 1 ≤ capV v := by rw [hwn] at hc2; simp at hc2; omega
  refine wp_skip (then_n (wp_seq ?_))
  refine region_q hS
    (cF rfl (oM .t) r1 trivial
    (cF rfl (oM .t) r1 trivial
    (cF rfl (oM .t) r1 trivial
    (cF rfl (o_add .t .t) r2 trivial
    (cF rfl (o_grow_row (sz := 1) 1 (.mk Try.underlying58 (by kernel_rfl)) .is .t (by rw [hwn]; omega) (by omega)) r2 r1
    (cF rfl (oN .t) r1 trivial
    Chain.nil))))))
    hB ?_
  clear hS; intro a w F hS
  replace hS := hS.sub
  obtain ⟨F, hS⟩ := hS.nm [8, 7, 6, 2, 1, 0] [1, 0] rfl rfl
  try dsimp only [RS.sub, SF.sub, CF.sub, csub, Anc.sub, List.map, rU64] at hS
  generalize Act.tau a 60 = v60 at hS
  refine then_n (wp_seq (wp_seq ?_))
  refine region_q hS
    (cF rfl (oM .t) r1 trivial
    (cF rfl (oM .t) r1 trivial
    (cF rfl (oM .t) r1 trivial
    (cF rfl (oM .t) r1 trivial
    (cF rfl (o_add .t .t) r2 trivial
    (cF rfl (o_sub_rowU (sz := 1) 1 (.mk Try.underlying58 (by kernel_rfl)) .is .t (by rw [hw1]; omega) (by rw [hw1]; omega)) r2 r1
    (cF rfl (o_overlaps 1 Try.func41 (by kernel_rfl) (by kernel_rfl) (by kernel_rfl) rfl Try.underlying58 (by kernel_rfl) (by intro x; rfl) .t .t (by rw [hw1]; omega)) r2 r1
    (cF rfl (o_not .t) r1 trivial
    Chain.nil))))))))
    hB ?_
  clear hS; intro a w F hS
  obtain ⟨F, hS⟩ := hS.nm [68, 8, 7, 6, 2, 1, 0] [1, 0] rfl rfl
  try dsimp only [rU64] at hS
  refine then_n ?_
  refine cond_b hS rfl (fun hc3 => ?_) (fun hc3 => ?_)
  ·skip
   refine wp_seq ?_
   refine region_any (by kernel_rfl) hS (by kernel_rfl)
     (cF rfl (oM .t) r1 trivial
     (cF rfl (oM .t) r1 trivial
     (cF rfl (oM .t) r1 trivial
     (cF rfl (o_add .t .t) r2 trivial
     (cF rfl (o_sub_rowU (sz := 1) 1 (.mk Try.underlying58 (by kernel_rfl)) .is .t (by rw [hw1]; omega) (by rw [hw1]; omega)) r2 r1
     (cF rfl (oM .t) r1 trivial
     (cF rfl (oM .t) r1 trivial
     (cF rfl (o_sub_rowU (sz := 1) 1 (.mk Try.underlying58 (by kernel_rfl)) .is .t (by omega) (by omega)) r2 r1
     (cF rfl (o_copy_shift (k := i) 1 Try.underlying58 (by kernel_rfl) (by intro x; rfl) .t .t (by rw [hw1]; rfl) rfl (by omega)) r2 r1
     Chain.nil)))))))))
     (by kernel_rfl) (by rw [hB]; kernel_rfl) ?_
   clear hS; intro a w F hS
   obtain ⟨F, hS⟩ := hS.nm [8, 7, 6, 2, 1, 0] [1, 0] rfl rfl
   try dsimp only [rU64] at hS
   obtain ⟨l4, hl4⟩ : ∃ y, y = l.take (i + 1) ++ l.drop i := ⟨_, rfl⟩
   rw [← hl4] at hS
   have hl4n : l4.length = l.length + 1 := by rw [hl4, List.length_append, List.length_take, List.length_drop]; omega
   refine then_n (wp_seq ?_)
   refine region_q hS
     (cF rfl (oM .t) r1 trivial
     (cF rfl (oM .t) r1 trivial
     (cF rfl (o_sub_row (sz := 1) 1 (.mk Try.underlying58 (by kernel_rfl)) .is .t (by omega) (by omega)) r2 r1
     (cF rfl (oM .t) r1 trivial
     (cF rfl (o_copy_sub 1 Try.underlying58 (by kernel_rfl) (by intro x; rfl) .t .t (by simp) (by simp; omega)) r2 r1
     Chain.nil)))))
     hB ?_
   clear hS; intro a w F hS
   obtain ⟨F, hS⟩ := hS.nm [8, 7, 6, 2, 1, 0] [1, 0] rfl rfl
   try dsimp only [rU64] at hS
   simp only [Int.toNat_natCast] at hS
   have hg := ins_place (x := x) hil hl4
   refine then_n (wp_seq ?_)
   refine region_q hS
     (cF rfl (oM .t) r1 trivial
     (cF rfl (oN .t) r1 trivial
     Chain.nil))
     hB ?_
   clear hS; intro a w F hS
   obtain ⟨F, hS⟩ := hS.nm [8, 7, 6, 2, 1, 0] [1, 0] rfl rfl
   try dsimp only [rU64] at hS
   refine then_n (wp_ret (then_r ?_))
   have hS := hS.turn 1 rfl (r' := RS.hp (rowH 49 1 rU64 (l.take i ++ [x] ++ l.drop i) v60)) (fun _ _ _ _ h => by rw [hg]; exact h)
   refine ret_N1 (h' := fun v => rowH 49 1 rU64 (l.take i ++ [x] ++ l.drop i) v) hG hS rfl (.tmp rfl .nil) (.one .one) rfl
  simp at hc3

theorem delU_c (v : Value) (l : List Int) (i : Nat) (hll : l.length ≤ 1000000) (hi : i < l.length) : FnG Try.prog 34 1 [.is v, .int .i64 i, .int .i64 ((i + 1 : Nat) : Int)] [rowH 49 1 rU64 l v] (PV.one) (fun v => [rowH 49 1 rU64 (l.take i ++ l.drop (i + 1)) v]) := by
  refine FnG.mk Try.func34 rfl Try.ntmps34 rfl (by kernel_rfl) ?_
  intro B F0 a w F hB hG hS
  replace hS := hS.turn 1 rfl (r' := .ob (.val v) (rowH 49 1 rU64 l)) (fun _ _ _ _ h => h)
  have hrc := (hS.rowCap (n := 1) rfl).1
  refine wp_seq ?_
  refine region_q hS
    (cF rfl (oN (.c rfl)) trivial trivial
    Chain.nil)
    hB ?_
  clear hS; intro a w F hS
  obtain ⟨F, hS⟩ := hS.nm [6, 2, 1, 0] [1, 0] rfl rfl
  try dsimp only [rU64] at hS
  refine then_n (wp_seq ?_)
  refine region_q hS
    (cF rfl (oM .t) r1 trivial
    (cF rfl (oM .t) r1 trivial
    (cF rfl (oM .t) r1 trivial
    (cF rfl (oM .t) r1 trivial
    (cF rfl (o_len_row 1 Try.underlying58 .is) r1 r1
    (cF rfl (o_slice3 (sz := 1) 1 (.mk Try.underlying58 (by kernel_rfl)) .is .t .t .t (by omega) (by omega) (by omega) (by omega)) r4 r1
    Chain.nil))))))
    hB ?_
  clear hS; intro a w F hS
  obtain ⟨F, hS⟩ := hS.nm [6, 2, 1, 0] [1, 0] rfl rfl
  try dsimp only [rU64] at hS
  refine then_n (wp_seq (wp_seq ?_))
  refine region_q hS
    (cF rfl (oM .t) r1 trivial
    (cF rfl (oM .t) r1 trivial
    (cF rfl (o_eql .t .t) r2 trivial
    Chain.nil)))
    hB ?_
  clear hS; intro a w F hS
  obtain ⟨F, hS⟩ := hS.nm [16, 6, 2, 1, 0] [1, 0] rfl rfl
  try dsimp only [rU64] at hS
  refine then_n ?_
  refine cond_b hS rfl (fun hc0 => ?_) (fun hc0 => ?_)
  ·skip
   simp at hc0; omega
  refine wp_skip (then_n (wp_seq ?_))
  refine region_q hS
    (cF rfl (oM .t) r1 trivial
    (cF rfl (o_len_row 1 Try.underlying58 .is) r1 r1
    (cF rfl (oN .t) r1 trivial
    Chain.nil)))
    hB ?_
  clear hS; intro a w F hS
  obtain ⟨F, hS⟩ := hS.nm [7, 6, 2, 1, 0] [1, 0] rfl rfl
  try dsimp only [rU64] at hS
  refine then_n (wp_seq ?_)
  refine region_any (by kernel_rfl) hS (by kernel_rfl)
    (cF rfl (oM .t) r1 trivial
    (cF rfl (oM .t) r1 trivial
    (cF rfl (o_head_row (sz := 1) 1 (.mk Try.underlying58 (by kernel_rfl)) .is .t (by omega) (by omega)) r2 r1
    (cF rfl (oM .t) r1 trivial
    (cF rfl (oM .t) r1 trivial
    (cF rfl (o_sub_row_le (sz := 1) 1 (.mk Try.underlying58 (by kernel_rfl)) .is .t (by omega) (by omega) (by omega)) r2 r1
    (cF rfl (o_append_part 1 Try.underlying58 (by kernel_rfl) (by intro x; rfl) .t .t (by omega) (by omega) (by omega)) ⟨rfl, rfl, trivial⟩ ⟨rfl, trivial⟩
    (cF rfl (oN .t) r1 trivial
    Chain.nil))))))))
    (by kernel_rfl) (by rw [hB]; kernel_rfl) ?_
  clear hS; intro a w F hS
  obtain ⟨F, hS⟩ := hS.nm [7, 6, 0] [1, 0] rfl rfl
  try dsimp only [xC, xN, rU64] at hS
  simp only [Int.toNat_natCast] at hS
  obtain ⟨v2, hv2⟩ : ∃ y, y = headV (i + (l.length - (i + 1))) v := ⟨_, rfl⟩
  rw [← hv2] at hS
  have hcv : capV v2 = capV v := by rw [hv2]; exact capV_head _ _
  obtain ⟨l4, hl4⟩ : ∃ y, y = l.take i ++ l.drop (i + 1) := ⟨_, rfl⟩
  rw [← hl4] at hS
  have hl4n : l4.length + 1 = l.length := by rw [hl4, List.length_append, List.length_take, List.length_drop]; omega
  have hg := hl4.symm
  refine then_n (wp_seq ?_)
  refine region_q hS
    (cF rfl (oM .t) r1 trivial
    (cF rfl (oM .t) r1 trivial
    (cF rfl (o_len_row 1 Try.underlying58 .is) r1 r1
    (cF rfl (oM .t) r1 trivial
    (cF rfl (o_spare (sz := 1) 1 (.mk Try.underlying58 (by kernel_rfl)) .is .t .t (by omega) (by omega) (by rw [hcv]; omega)) r3 r1
    (cF rfl (o_clear_spare (zs := [.int .u64 0]) 1 Try.underlying58 rfl rfl (cells_made (zs := [.int .u64 0]) (R := rU64) (v := (0 : Int)) rfl (by decide) (fun _ _ => ⟨⟨rfl, rfl, inRu0⟩, trivial⟩) _) .t (by omega) (by rw [hcv]; omega)) r1 r1
    Chain.nil))))))
    hB ?_
  clear hS; intro a w F hS
  obtain ⟨F, hS⟩ := hS.nm [6, 0] [1, 0] rfl rfl
  try dsimp only [rU64] at hS
  refine then_n (wp_seq ?_)
  refine region_q hS
    (cF rfl (oM .t) r1 trivial
    (cF rfl (oN .t) r1 trivial
    Chain.nil))
    hB ?_
  clear hS; intro a w F hS
  obtain ⟨F, hS⟩ := hS.nm [6] [1, 0] rfl rfl
  try dsimp only [rU64] at hS
  refine then_n (wp_ret ?_)
  have hS := hS.turn 1 rfl (r' := RS.hp (rowH 49 1 rU64 (l.take i ++ l.drop (i + 1)) v2)) (fun _ _ _ _ h => by rw [hg]; exact h)
  refine ret_N1 (h' := fun v => rowH 49 1 rU64 (l.take i ++ l.drop (i + 1)) v) hG hS rfl (.tmp rfl .nil) (.one .one) rfl

theorem isNaNA_c (x : Int) : FnP Try.prog 47 [.int .u64 x] (.bool false) := by
  refine FnP.mk Try.func47 rfl Try.ntmps47 rfl ?_
  intro B a w F hB hfr hS
  refine wp_seq ?_
  refine region_q hS
    (cF rfl (oN .cb) trivial trivial
    Chain.nil)
    hB ?_
  clear hS; intro a w F hS
  obtain ⟨F, hS⟩ := hS.nm [2, 0] [0] rfl rfl
  refine then_n (wp_seq ?_)
  refine region_q hS
    (cF rfl (oM .t) r1 trivial
    (cF rfl (oM .t) r1 trivial
    (cF rfl (o_neq .t .t) r2 trivial
    (cF rfl (oN .t) r1 trivial
    Chain.nil))))
    hB ?_
  clear hS; intro a w F hS
  obtain ⟨F, hS⟩ := hS.nm [2] [0] rfl rfl
  refine then_n (wp_ret ?_)
  refine ret_P hfr hS rfl (.tmp rfl .nil) (.one (.bool (by simp)))

theorem isNaNB_c (x : Int) : FnP Try.prog 40 [.int .u64 x] (.bool false) := by
  refine FnP.mk Try.func40 rfl Try.ntmps40 rfl ?_
  intro B a w F hB hfr hS
  refine wp_seq ?_
  refine region_q hS
    (cF rfl (oN .cb) trivial trivial
    Chain.nil)
    hB ?_
  clear hS; intro a w F hS
  obtain ⟨F, hS⟩ := hS.nm [2, 0] [0] rfl rfl
  refine then_n (wp_seq ?_)
  refine region_q hS
    (cF rfl (oM .t) r1 trivial
    (cF rfl (oM .t) r1 trivial
    (cF rfl (o_neq .t .t) r2 trivial
    (cF rfl (oN .t) r1 trivial
    Chain.nil))))
    hB ?_
  clear hS; intro a w F hS
  obtain ⟨F, hS⟩ := hS.nm [2] [0] rfl rfl
  refine then_n (wp_ret ?_)
  refine ret_P hfr hS rfl (.tmp rfl .nil) (.one (.bool (by simp)))

theorem lessI_c (x y : Int) : FnP Try.prog 39 [.int .u64 x, .int .u64 y] (.bool (decide (x < y))) := by
  refine FnP.mk Try.func39 rfl Try.ntmps39 rfl ?_
  intro B a w F hB hfr hS
  refine wp_seq ?_
  refine region_q hS
    (cF rfl (oN .cb) trivial trivial
    Chain.nil)
    hB ?_
  clear hS; intro a w F hS
  obtain ⟨F, hS⟩ := hS.nm [4, 1, 0] [0] rfl rfl
  refine then_n (wp_seq ?_)
  refine region_q hS
    (cF rfl (oM .t) r1 trivial
    (cF rfl (oP (isNaNA_c x) Try.func47 (Args.one .t)) r1 trivial
    (cF rfl (oM .t) r1 trivial
    (Chain.cons (Cert.cond rfl rfl (fun h => o_move .t (by rfl))) r2 trivial
    (Chain.cons (Cert.cond rfl rfl (fun h => o_callP (isNaNA_c y) Try.func47 rfl (by kernel_rfl) (Args.one (.w h)))) r2 trivial
    (Chain.cons (Cert.cond rfl rfl (fun h => o_not (.w h))) r2 trivial
    (cF rfl (o_and2 .t .t) r2 trivial
    (cF rfl (oM .t) r1 trivial
    (Chain.cons (Cert.cond rfl rfl (fun h => o_move .t (by rfl))) r2 trivial
    (Chain.cons (Cert.cond rfl rfl (fun h => o_move .t (by rfl))) r2 trivial
    (Chain.cons (Cert.cond rfl rfl (fun h => o_lss (.w h) (.w h))) r3 trivial
    (cF rfl (o_or2 .t .t) r2 trivial
    (cF rfl (oN .t) r1 trivial
    Chain.nil)))))))))))))
    hB ?_
  clear hS; intro a w F hS
  obtain ⟨F, hS⟩ := hS.nm [4] [0] rfl rfl
  refine then_n (wp_ret ?_)
  refine ret_P hfr hS rfl (.tmp rfl .nil) (.one (.bool (by simp)))

theorem bsU_c (l : List Int) (k : Int) (hll : l.length ≤ 1000000) (hs : Rise (fun x : Int => x) l) : FnP Try.prog 32 [.sl rU64 l, .int .u64 k] (.tup [.int .i64 (lowK (fun x : Int => x) k l), .bool (isK (fun x : Int => x) k l)]) := by
  refine FnP.mk Try.func32 rfl Try.ntmps32 rfl ?_
  intro B a w F hB hfr hS
  refine wp_seq ?_
  refine region_q hS
    (cF rfl (oN (.ci (by kernel_rfl))) trivial trivial
    (cF rfl (oN .cb) trivial trivial
    Chain.nil))
    hB ?_
  clear hS; intro a w F hS
  obtain ⟨F, hS⟩ := hS.nm [5, 4, 1, 0] [0] rfl rfl
  refine then_n (wp_seq ?_)
  refine region_q hS
    (cF rfl (oM .t) r1 trivial
    (cF rfl (o_len_sl Try.underlying58 .t) r1 trivial
    (cF rfl (oN .t) r1 trivial
    Chain.nil)))
    hB ?_
  clear hS; intro a w F hS
  obtain ⟨F, hS⟩ := hS.nm [6, 5, 4, 1, 0] [0] rfl rfl
  refine then_n (wp_seq ?_)
  refine region_q hS
    (cF rfl (oM .t) r1 trivial
    (cF rfl (oN (.ci (by kernel_rfl))) trivial trivial
    (cF rfl (oN .t) r1 trivial
    Chain.nil)))
    hB ?_
  clear hS; intro a w F hS
  obtain ⟨F, hS⟩ := hS.nm [8, 7, 6, 5, 4, 1, 0] [0] rfl rfl
  refine then_n (wp_seq (wp_block ?_))
  refine loop_keep (σ := Nat × Nat) [0, 1, 4, 5, 6] [0] (fun s => [(7, .pv (.int .i64 (s.1 : Int))), (8, .pv (.int .i64 (s.2 : Int)))]) (fun s => []) (fun s => s.1 ≤ s.2 ∧ s.2 ≤ l.length ∧ (∀ q, q < s.1 → Go.Gm.nth l q < k) ∧ ∀ q, s.2 ≤ q → q < l.length → k ≤ Go.Gm.nth l q) (fun s => s.2 - s.1) ((0), (l.length)) hS ⟨rfl, rfl, rfl, rfl, rfl, rfl, rfl, trivial⟩ ⟨rfl, trivial⟩ ⟨Nat.zero_le _, Nat.le_refl _, fun q hq => absurd hq (Nat.not_lt_zero q), fun q h1 h2 => by omega⟩ ?_
  clear hS; intro s a w F hC hS
  obtain ⟨i, j⟩ := s
  try dsimp only at hC
  obtain ⟨F, hS⟩ := hS.nm [8, 7, 6, 5, 4, 1, 0] [0] rfl rfl
  try dsimp only at hS
  obtain ⟨hij, hjl, hlo, hhi⟩ := hC
  have hgl := lowK_eq (κ := fun x : Int => x) (i := i) (by omega) hlo
  refine wp_seq (wp_seq ?_)
  refine region_q hS
    (cF rfl (oM .t) r1 trivial
    (cF rfl (oM .t) r1 trivial
    (cF rfl (o_lss .t .t) r2 trivial
    Chain.nil)))
    hB ?_
  clear hS; intro a w F hS
  obtain ⟨F, hS⟩ := hS.nm [15, 14, 13, 8, 7, 6, 5, 4, 1, 0] [0] rfl rfl
  refine then_n ?_
  refine cond_b hS rfl (fun hc0 => ?_) (fun hc0 => ?_)
  ·skip
   have hlt : i < j := by simp at hc0; omega
   refine wp_skip (then_n (wp_block (wp_seq ?_)))
   refine region_q hS
     (cF rfl (oM .t) r1 trivial
     (cF rfl (oM .t) r1 trivial
     (cF rfl (o_add .t .t) r2 trivial
     (cF rfl (o_conv Try.underlying63 (by kernel_rfl) .t) r1 trivial
     (cF rfl (o_shr .t (.ci (by kernel_rfl)) (by decide)) r1 trivial
     (cF rfl (o_conv Try.underlying3 (by kernel_rfl) .t) r1 trivial
     (cF rfl (oN .t) r1 trivial
     Chain.nil)))))))
     hB ?_
   clear hS; intro a w F hS
   obtain ⟨F, hS⟩ := hS.nm [21, 20, 19, 18, 17, 16, 15, 14, 13, 9, 8, 7, 6, 5, 4, 1, 0] [0] rfl rfl
   obtain ⟨m, hm⟩ : ∃ m : Nat, m = (i + j) / 2 := ⟨_, rfl⟩
   replace hS := hS.ent (i := 9) (s' := .pv (.int .i64 (m : Int))) rfl (.int (by rw [hm]; exact mid_shr (by omega)))
   obtain ⟨F, hS⟩ := hS.nm [21, 20, 19, 18, 17, 16, 15, 14, 13, 9, 8, 7, 6, 5, 4, 1, 0] [0] rfl rfl
   refine then_n (wp_seq ?_)
   refine region_q hS
     (cF rfl (oM .t) r1 trivial
     (cF rfl (oM .t) r1 trivial
     (cF rfl (o_indexAddr_sl (sz := 1) (.mk Try.underlying58 (by kernel_rfl)) (by intro x; rfl) .t .t (by omega) (by omega)) r2 trivial
     (cF rfl (oR false 1 .t) r1 trivial
     (cF rfl (oM .t) r1 trivial
     (cF rfl (oP (lessI_c (Go.Gm.nth l m) k) Try.func39 (Args.two .t .t)) r2 trivial
     Chain.nil))))))
     hB ?_
   clear hS; intro a w F hS
   obtain ⟨F, hS⟩ := hS.nm [27, 26, 25, 24, 23, 22, 21, 20, 19, 18, 17, 16, 15, 14, 13, 9, 8, 7, 6, 5, 4, 1, 0] [0] rfl rfl
   try dsimp only [List.map, xD, xE, xT, xU, ldSF] at hS
   try simp only [Int.toNat_natCast] at hS
   refine then_n ?_
   refine cond_b hS rfl (fun hc1 => ?_) (fun hc1 => ?_)
   ·skip
    have hmk : (Go.Gm.nth l m) < k := by simpa using hc1
    obtain ⟨i2, hi2e⟩ : ∃ z, z = m + 1 := ⟨_, rfl⟩
    obtain ⟨j2, hj2e⟩ : ∃ z, z = j := ⟨_, rfl⟩
    have hi2 : IntKind.wrap .i64 ((m : Int) + 1) = (i2 : Int) := by rw [hi2e]; exact wrap_succ (by omega)
    have hj2 : (j : Int) = (j2 : Int) := by rw [hj2e]
    have hmu : j2 - i2 < j - i := by omega
    have hC2 : i2 ≤ j2 ∧ j2 ≤ l.length ∧ (∀ q, q < i2 → Go.Gm.nth l q < k) ∧ ∀ q, j2 ≤ q → q < l.length → k ≤ Go.Gm.nth l q := ⟨by omega, by omega, fun q hq => Int.lt_of_le_of_lt (rise_le (κ := fun x : Int => x) hs (by omega) (by omega)) hmk, by rw [hj2e]; exact hhi⟩
    refine region_q hS
      (cF rfl (oM .t) r1 trivial
      (cF rfl (o_add .t (.ci (by kernel_rfl))) r1 trivial
      (cF rfl (oN .t) r1 trivial
      Chain.nil)))
      hB ?_
    clear hS; intro a w F hS
    obtain ⟨F, hS⟩ := hS.nm [29, 28, 27, 26, 25, 24, 23, 22, 21, 20, 19, 18, 17, 16, 15, 14, 13, 9, 8, 7, 6, 5, 4, 1, 0] [0] rfl rfl
    refine block_n (then_n ?_)
    replace hS := hS.ent (i := 7) (s' := .pv (.int .i64 (i2 : Int))) rfl (.int hi2)
    replace hS := hS.ent (i := 8) (s' := .pv (.int .i64 (j2 : Int))) rfl (.int hj2)
    obtain ⟨F, hS⟩ := hS.nm [6, 5, 4, 1, 0, 8, 7] [0] rfl rfl
    exact ⟨((i2), (j2)), F, hC2, hS, hmu⟩
   have hmk : k ≤ (Go.Gm.nth l m) := Int.not_lt.1 (show ¬ (Go.Gm.nth l m) < k by simpa using hc1)
   obtain ⟨i2, hi2e⟩ : ∃ z, z = i := ⟨_, rfl⟩
   obtain ⟨j2, hj2e⟩ : ∃ z, z = m := ⟨_, rfl⟩
   have hi2 : (i : Int) = (i2 : Int) := by rw [hi2e]
   have hj2 : (m : Int) = (j2 : Int) := by rw [hj2e]
   have hmu : j2 - i2 < j - i := by omega
   have hC2 : i2 ≤ j2 ∧ j2 ≤ l.length ∧ (∀ q, q < i2 → Go.Gm.nth l q < k) ∧ ∀ q, j2 ≤ q → q < l.length → k ≤ Go.Gm.nth l q := ⟨by omega, by omega, by rw [hi2e]; exact hlo, fun q h1 h2 => Int.le_trans hmk (rise_le (κ := fun x : Int => x) hs (by omega) h2)⟩
   refine region_q hS
     (cF rfl (oM .t) r1 trivial
     (cF rfl (oN .t) r1 trivial
     Chain.nil))
     hB ?_
   clear hS; intro a w F hS
   obtain ⟨F, hS⟩ := hS.nm [30, 27, 26, 25, 24, 23, 22, 21, 20, 19, 18, 17, 16, 15, 14, 13, 9, 8, 7, 6, 5, 4, 1, 0] [0] rfl rfl
   refine block_n (then_n ?_)
   replace hS := hS.ent (i := 7) (s' := .pv (.int .i64 (i2 : Int))) rfl (.int hi2)
   replace hS := hS.ent (i := 8) (s' := .pv (.int .i64 (j2 : Int))) rfl (.int hj2)
   obtain ⟨F, hS⟩ := hS.nm [6, 5, 4, 1, 0, 8, 7] [0] rfl rfl
   exact ⟨((i2), (j2)), F, hC2, hS, hmu⟩
  have hjj : i = j := by simp at hc0; omega
  subst hjj
  have hgl2 := hgl hhi
  have hgs2 := isK_eq (κ := fun x : Int => x) (i := i) (by omega) hs hlo hhi
  refine wp_exit (then_x (then_x (block_x (then_n (wp_seq ?_)))))
  refine region_q hS
    (cF rfl (oM .t) r1 trivial
    (cF rfl (oM .t) r1 trivial
    (cF rfl (oM .t) r1 trivial
    (cF rfl (o_lss .t .t) r2 trivial
    (cF rfl (oM .t) r1 trivial
    (Chain.cons (Cert.cond rfl rfl (fun h => o_move .t (by rfl))) r2 trivial
    (Chain.cons (Cert.cond rfl rfl (fun h => o_move .t (by rfl))) r2 trivial
    (Chain.cons (Cert.cond rfl rfl (fun h => o_indexAddr_sl (sz := 1) (.mk Try.underlying58 (by kernel_rfl)) (by intro x; rfl) (.w h) (.w h) (by omega) (by have := of_decide_eq_true h; omega))) r3 trivial
    (Chain.cons (Cert.cond rfl rfl (fun h => o_load_ref (ag := false) (sz := 1) (.w h) (by kernel_rfl) (by kernel_rfl) (by kernel_rfl))) r2 trivial
    (Chain.cons (Cert.cond rfl rfl (fun h => o_move .t (by rfl))) r2 trivial
    (Chain.cons (Cert.cond rfl rfl (fun h => o_eql (.w h) (.w h))) r3 trivial
    (Chain.cons (Cert.cond rfl rfl (fun h => o_move (.w h) (by rfl))) r2 trivial
    (Chain.cons (Cert.cond2 rfl rfl (fun h => o_move .t (by rfl))) r2 trivial
    (Chain.cons (Cert.cond2 rfl rfl (fun h => o_move .t (by rfl))) r2 trivial
    (Chain.cons (Cert.cond2 rfl rfl (fun h => o_indexAddr_sl (sz := 1) (.mk Try.underlying58 (by kernel_rfl)) (by intro x; rfl) (.w h) (.w h) (by omega) (by have := of_decide_eq_true h.1; omega))) r3 trivial
    (Chain.cons (Cert.cond2 rfl rfl (fun h => o_load_ref (ag := false) (sz := 1) (.w h) (by kernel_rfl) (by kernel_rfl) (by kernel_rfl))) r2 trivial
    (Chain.cons (Cert.cond2 rfl rfl (fun h => o_callP (isNaNB_c _) Try.func40 rfl (by kernel_rfl) (Args.one (.w h)))) r2 trivial
    (Chain.cons (Cert.cond2 rfl rfl (fun h => o_move (.w h) (by rfl))) r2 trivial
    (Chain.cons (Cert.cond2 rfl rfl (fun h => o_move .t (by rfl))) r2 trivial
    (Chain.cons (Cert.cond2 rfl rfl (fun h => o_callP (isNaNB_c _) Try.func40 rfl (by kernel_rfl) (Args.one (.w h)))) r2 trivial
    (Chain.cons (Cert.cond2 rfl rfl (fun h => o_and2 (.w h) (.wc h))) r3 trivial
    (Chain.cons (Cert.cond rfl rfl (fun h => o_or2 (.w h) (.wc h))) r3 trivial
    (cF rfl (o_and2 .t .t) r2 trivial
    (cF rfl (oN .t) r1 trivial
    (cF rfl (oN .t) r1 trivial
    Chain.nil)))))))))))))))))))))))))
    hB ?_
  clear hS; intro a w F hS
  obtain ⟨F, hS⟩ := hS.nm [5, 4] [0] rfl rfl
  try dsimp only [List.map, xD, xE, xT, xU, ldSF] at hS
  try simp only [Int.toNat_natCast] at hS
  refine then_n (wp_ret ?_)
  refine ret_P hfr hS rfl (.tmp rfl (.tmp rfl .nil)) (.two (.int (by rw [hgl2])) (.bool (by rw [Bool.eq_iff_iff, hgs2]; simp)))

end Go.Proofs.Ytfdjjfplhdpclaa
