/- Components. No condition beyond those that each theorem says. -/
import Derived.Test.YtpahapjcdldodaaDoorCo5
namespace Go.Proofs.YtpahapjcdldodaaDoor
open Go Go.Gm
set_option linter.unusedVariables false
set_option linter.unusedSimpArgs false
set_option maxHeartbeats 4000000
set_option maxRecDepth 8000


def PV.clos1 (f : FuncId) (fps : List PV) : PV := ⟨fun u w y => ∃ fs : List Value, u = .func (.func f) fs.toArray #[] ∧ PVt fps fs w y, fun h ⟨fs, e, k⟩ => ⟨fs, e, PVt.mono h k⟩⟩
theorem o_makeFunc1 {P : Program} {d : Option Nat} {ty : TypeId} {pos : String} {af : Array Edge} {g : Option (Nat × Bool)} {f : FuncId} {first : Array Operand} {ps : List (Nat × SF)} {fps : List PV}
    (ha : ∀ (a : Act) w y, Hps ps (Act.tau a) w y → ∃ vs : List Value, first.map a.eval = vs.toArray ∧ PVt fps vs w y) :
    Go.Gm.OpC P ⟨d, .makeFunc (.func f) first #[], ty, pos, af, g⟩ ⟨ps, [], .pv (PV.clos1 f fps), []⟩ :=
  OpC.pure fun a w yy hp => by
    obtain ⟨vs, e, h⟩ := ha a w yy hp
    exact ⟨.func (.func f) vs.toArray #[], by simp [execOp, Instr.makeFunc, e], fun _ _ => ⟨vs, rfl, h⟩⟩
/-- A call of a method value that changes one object. -/
theorem o_callClos1 {P : Program} {ty : TypeId} {pos : String} {af : Array Edge} {g : Option (Nat × Bool)} {f : FuncId} {x : Operand} {args : Array Operand} {tys : Array TypeId} {d' : Nat} {qs ps : List (Nat × SF)} {avs fps : List PV} {h h' : HP} {q : PV} {fn : Func} (n : Nat) (hx : Opd x qs (.pv (PV.clos1 f fps)))
    (hc : FnG P f 1 (fps ++ avs) [h] q (fun _ => [h'])) (hf : P.funcs[f]? = some fn) (hb : fn.body.isSome = true) (hn : (fn.name == "runtime.NumGoroutine") = false)
    (ha : ∀ (a : Act) w y, Hps ps (Act.tau a) w y → ∃ vs : List Value, args.map a.eval = vs.toArray ∧ PVt avs vs w y) :
    Go.Gm.OpC P ⟨some d', .call { callee := .value x, args := args, argTypes := tys }, ty, pos, af, g⟩ ⟨qs ++ ps, [(n, RS.hp h)], .pv q, [(n, RS.hp h')]⟩ :=
  o_callGen (is := [n]) (avs := fps ++ avs) hc (fun a w y hp => by
      obtain ⟨vs, e, hvs⟩ := ha a w y hp.right
      obtain ⟨fs, e2, hcs⟩ := hx a w y hp.left
      have hbn : fn.body ≠ none := by intro h; rw [h] at hb; cases hb
      have hn' : fn.name ≠ "runtime.NumGoroutine" := by intro h; rw [h] at hn; simp at hn
      exact ⟨fs ++ vs, by simp [execOp, resolve, e, e2, Deferred.ofValue, invoke, callFunc, hf, hn', hbn], hcs.append hvs⟩) rfl (by simp) (fun τ w F hr i x hi => by
      match i, hi with
      | 0, hi => simp at hi; subst hi; exact ⟨n, rfl, hr (n, RS.hp h) (by simp)⟩)
    (fun _ _ _ _ h => h) (fun x hx => by
      simp only [List.mem_singleton] at hx
      subst hx
      exact ⟨0, rfl, fun v τ w f y ⟨k, hk, hp⟩ => by simp at hk; subst hk; exact hp⟩) rfl (fun _ => rfl)
def rMk (p : Int × Value) : List PV := [.int .i64 p.1, .is p.2]
/-- The components. -/
structure CoS where
  av : Value
  nv : Value
  mv : Value
  sv : Value
  dv : Value
  ns : List Value
  ks : List Value
  ms : List (Int × List Int)
  es : List (GE Int Int)
  ck : Nat
  D : List Int
  last : List Int
def mkL (ks : List Value) (ms : List (Int × List Int)) : List (Int × Value) := (List.range ks.length).map fun k => ((Go.Gm.nth ms k).1, Go.Gm.nth ks k)
theorem mkL_len (ks : List Value) (ms : List (Int × List Int)) : (mkL ks ms).length = ks.length := by unfold mkL; simp
theorem mkL_nth {ks : List Value} {ms : List (Int × List Int)} {k : Nat} (h : k < ks.length) : Go.Gm.nth (mkL ks ms) k = ((Go.Gm.nth ms k).1, Go.Gm.nth ks k) := by
  rw [nth_eq (by rw [mkL_len]; exact h)]; simp [mkL]
theorem mkL_set {ks : List Value} {ms : List (Int × List Int)} {k : Nat} {v : Value} {m : Int × List Int} (hl : ms.length = ks.length) : (mkL ks ms).set k (m.1, v) = mkL (ks.set k v) (ms.set k m) := by
  apply List.ext_getElem (by simp [mkL_len])
  intro j h1 h2
  rw [List.length_set, mkL_len] at h1
  have a1 : Go.Gm.nth (ms.set k m) j = if k = j then m else Go.Gm.nth ms j := nth_set (by omega)
  have a2 : Go.Gm.nth (ks.set k v) j = if k = j then v else Go.Gm.nth ks j := nth_set h1
  rw [List.getElem_set]
  simp only [mkL, List.getElem_map, List.getElem_range, a1, a2]
  by_cases e : k = j <;> simp [e]
theorem mkL_push {ks : List Value} {ms : List (Int × List Int)} {v : Value} {m : Int × List Int} (hl : ms.length = ks.length) : mkL (ks ++ [v]) (ms ++ [m]) = mkL ks ms ++ [(m.1, v)] := by
  unfold mkL
  rw [List.length_append, List.length_singleton, List.range_succ, List.map_append, List.map_singleton, nth_append_at, ← hl, nth_append_at]
  congr 1
  refine List.map_congr_left fun k hk => ?_
  have := List.mem_range.1 hk
  rw [nth_append_left this, nth_append_left (by omega)]
abbrev mapS (es : List (GE Int Int)) (ck : Nat) : Value → HP := mapG (fun c : Int => PV.int .i64 c) (fun _ : Int => True) (fun n : Int => Value.int .i64 n) es ck
def coParts (n : Nat) (q : List PairD) (s : CoS) (v : Value) : List RS := [.pt (.val v) 87 [.pv (.is s.av), .pv (.is s.nv), .pv (.is s.mv), .pv (.is s.sv), .pv (.is s.dv)], RS.hp (clH s.av n q s.last), .ob (.val s.nv) (rowH 72 1 rV s.ns), .ob (.val s.mv) (rowH 89 2 rMk (mkL s.ks s.ms)), .ob (.val s.sv) (mapS s.es s.ck),
  famS (setP n) (famL s.ns fun k => nextQ q n (k : Int)), famS (setP n) (famL s.ks fun k => (Go.Gm.nth s.ms k).2), RS.hp (setH s.dv n s.D)]
structure CoL (n : Nat) (q : List PairD) (s : CoS) : Prop where
  hi : n ≤ 4096
  inn : InN n q
  len : q.length ≤ 1000000
  nl : s.ns.length = n
  kl : s.ks.length = n
  ml : s.ms.length = n
  up : Up n s.D
structure CoOk (n : Nat) (q q0 : List PairD) (s : CoS) : Prop extends CoL n q s where
  mrk : MkOk n q0 s.ms
  sz : SzOk s.es s.ms
  dt : DtOk n q q0 s.D
def coT (v : Value) (n : Nat) (q : List PairD) (s : CoS) : HP := .and (CoL n q s) (.star (coParts n q s v))
def coH (v : Value) (n : Nat) (q q0 : List PairD) : HP := .ex fun s : CoS => .and (CoOk n q q0 s) (.star (coParts n q s v))
theorem coH_ptr {v : Value} {n : Nat} {q q0 : List PairD} {w : World} {f y : Ys} (h : (coH v n q q0).p w f y) : ∃ b, v = .pointer (some ⟨b, 0, none⟩) := by
  obtain ⟨s, _, h⟩ := h
  exact HP.star_pt h
/-- Whole components, that are only read. -/
theorem co_parts_read {v : Value} {n : Nat} {q : List PairD} {s : CoS} (hk : CoL n q s) {w : World} {f y y' : Ys} (h : stars w y (coParts n q s v) f) (hle : ∀ b, y' b → y b) (hf : ∀ b, f b → ¬ y' b) (hb : ∀ b, f b → b < w.heap.size) : (coF n q).p v w y' := by
  obtain ⟨f1, g1, e1, d1, _, hp1, f2, g2, e2, d2, _, hp2, f3, g3, e3, d3, _, hp3, f4, g4, e4, d4, _, hp4, f5, g5, e5, d5, _, hp5, f6, g6, e6, d6, _, hp6, _⟩ := h
  have up1 : ∀ x, f1 x → f x := fun x hx => (e1 x).2 (.inl hx)
  have up2 : ∀ x, f2 x → f x := fun x hx => (e1 x).2 (.inr ((e2 x).2 (.inl hx)))
  have up3 : ∀ x, f3 x → f x := fun x hx => (e1 x).2 (.inr ((e2 x).2 (.inr ((e3 x).2 (.inl hx)))))
  have up6 : ∀ x, f6 x → f x := fun x hx => (e1 x).2 (.inr ((e2 x).2 (.inr ((e3 x).2 (.inr ((e4 x).2 (.inr ((e5 x).2 (.inr ((e6 x).2 (.inl hx)))))))))))
  obtain ⟨b, vs, k1, k2, k3, k4⟩ := hp1
  have hb1 : f b := up1 b ((k3 b).2 rfl)
  refine ⟨b, 0, vs.toList, k1, hf b hb1, hb b hb1, cellsAt.mk fun j u hj => ?_, ?_⟩
  · simp only [Nat.zero_add]
    simp [World.cell?, k2]
    simpa using hj
  · generalize vs.toList = us at k4
    match us, k4 with
    | [u1, u2, u3, u4, u5], k4 =>
      refine ⟨⟨k4.1.1, ?_⟩, ⟨k4.2.1.1, ?_⟩, ⟨k4.2.2.1.1, trivial⟩, ⟨k4.2.2.2.1.1, trivial⟩, ⟨k4.2.2.2.2.1.1, trivial⟩, trivial⟩
      · have e : u1 = s.av := k4.1.2.1
        rw [e]
        exact clo_read w f2 y y' hp2 hle (fun x hx => hf x (up2 x hx)) (fun x hx => hb x (up2 x hx))
      · have e : u2 = s.nv := k4.2.1.2.1
        rw [e]
        obtain ⟨xs, m1, m2, m3⟩ := (hp3 : (rowH 72 1 rV s.ns s.nv).p w f3 y)
        obtain ⟨ad, cap, e8, h8, h9, h10⟩ := row_shape m1
        rw [hk.nl] at e8 h8
        refine ⟨ad, cap, by rw [nextsQ_len]; exact e8, by rw [nextsQ_len]; exact h8, h9, ?_⟩
        rcases h10 with h10 | ⟨b', rfl, h11, h12⟩
        · exact .inl (List.eq_nil_of_length_eq_zero (by rw [nextsQ_len, ← hk.nl]; exact h10))
        · have hb' : f b' := up3 b' ((m3 b').2 h11)
          refine .inr ⟨b', 0, xs, rfl, hf b' hb', hb b' hb', h12, ?_⟩
          have e2 : nextsQ q n = (famL s.ns fun k => nextQ q n (k : Int)).map (·.2) := by rw [famL_snd, hk.nl]; rfl
          rw [e2]
          refine pvs_sets (y := y) (by rw [famL_fst]; exact m2) fun p hp => ?_
          obtain ⟨g, g1', g2'⟩ := stars_in (show stars w y ((famL s.ns fun k => nextQ q n (k : Int)).map fun x => RS.hp (setP n x)) f6 from hp6) (RS.hp (setP n p)) (List.mem_map.2 ⟨p, hp, rfl⟩)
          exact setH_lend w g y y' g2' hle (fun x hx => hf x (up6 x (g1' x hx))) (fun x hx => hb x (up6 x (g1' x hx)))
theorem coH_read {v : Value} {n : Nat} {q q0 : List PairD} : Lend (coH v n q q0) v (coF n q) := fun w f y y' ⟨s, hk, h⟩ hle hf hb => co_parts_read hk.toCoL h hle hf hb
theorem coT_read {v : Value} {n : Nat} {q : List PairD} {s : CoS} : Lend (coT v n q s) v (coF n q) := fun w f y y' ⟨hk, h⟩ hle hf hb => co_parts_read hk h hle hf hb

end Go.Proofs.YtpahapjcdldodaaDoor
