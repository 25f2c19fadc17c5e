/- Calls that only read a block of one's own. No condition. -/
import Derived.Test.YtfldilhddeabeaaDoorLibU
namespace Go.Gm
set_option linter.unusedVariables false
set_option linter.unusedSimpArgs false
section
variable {P : Program} {d : Option Nat} {t ty : TypeId} {pos : String} {af : Array Edge} {g : Option (Nat × Bool)} {x x2 x3 : Operand} {ps qs rs : List (Nat × SF)}
theorem o_nilCheck_ref {l : List PV} (hx : Opd x ps (.pv (.ref l))) : OpC P ⟨d, .nilCheck x, ty, pos, af, g⟩ ⟨ps, [], .pv (.ref l), []⟩ :=
  OpC.pure fun a w yy hp => by
    obtain ⟨b, k, vs, e1, h⟩ := hx a w yy hp
    exact ⟨.pointer (some ⟨b, k, none⟩), by simp [execOp, e1], fun τ _ => ⟨b, k, vs, rfl, h⟩⟩
theorem o_ref_eql {l : List PV} {ty' t' : TypeId} (hu : P.underlying t = some (.pointer ty')) (hx : Opd x ps (.pv (.ref l))) :
    OpC P ⟨d, .binOp .eql t x (.const (.pointer none)) t', ty, pos, af, g⟩ ⟨ps, [], .pv (.bool false), []⟩ :=
  OpC.pure fun a w yy hp => by
    obtain ⟨b, k, vs, e1, _⟩ := hx a w yy hp
    refine ⟨.bool false, ?_, fun _ _ => rfl⟩
    have hg : (eqGuard .eql t x (.const (.pointer none)) (.pointer (some ⟨b, k, none⟩)) (.pointer none)).run P w = .ok () w := rfl
    have hr := run_eql_pointer_nil (P := P) w t (some ⟨b, k, none⟩) (pointee_eq hu)
    simp only [execOp, e1, ev_const, Sem.run_bind, hg, Result.andThen_ok, hr, Sem.run_pure, Option.isNone_some]
theorem o_ref_neq {l : List PV} {ty' t' : TypeId} (hu : P.underlying t = some (.pointer ty')) (hx : Opd x ps (.pv (.ref l))) :
    OpC P ⟨d, .binOp .neq t x (.const (.pointer none)) t', ty, pos, af, g⟩ ⟨ps, [], .pv (.bool true), []⟩ :=
  OpC.pure fun a w yy hp => by
    obtain ⟨b, k, vs, e1, _⟩ := hx a w yy hp
    refine ⟨.bool true, ?_, fun _ _ => rfl⟩
    have hg : (eqGuard .neq t x (.const (.pointer none)) (.pointer (some ⟨b, k, none⟩)) (.pointer none)).run P w = .ok () w := rfl
    have hr := run_neq_pointer_nil (P := P) w t (some ⟨b, k, none⟩) (pointee_eq hu)
    simp only [execOp, e1, ev_const, Sem.run_bind, hg, Result.andThen_ok, hr, Sem.run_pure, Option.isNone_some, Bool.not_false]
def drop (F : Fp) (n : Nat) : Fp := fun m => if m = n then fun _ => False else F m
theorem drop_le (F : Fp) (n : Nat) : ∀ b, U (drop F n) b → U F b := fun b ⟨m, hm⟩ => ⟨m, by
  unfold drop at hm
  by_cases e : m = n
  · simp only [e, if_true] at hm
  · simp only [e, if_false] at hm; exact hm⟩
/-- Arguments, of which the first is lent. -/
def ArgsLent (args : Array Operand) (ps : List (Nat × SF)) (an : Anc) (l : List PV) (avs : List PV) : Prop :=
  ∀ (a : Act) w y y', Hps ps (Act.tau a) w y → (∀ b, y' b → y b) → (∀ b, an.v (Act.tau a) = .pointer (some ⟨b, 0, none⟩) → (PV.ref l).p (.pointer (some ⟨b, 0, none⟩)) w y') → (∃ b, an.v (Act.tau a) = .pointer (some ⟨b, 0, none⟩)) →
    ∃ vs : List Value, args.map a.eval = vs.toArray ∧ PVt avs vs w y'
theorem ArgsLent.one {an : Anc} {l : List PV} (h : AdrOk x ps an 0) : ArgsLent #[x] ps an l [.ref l] := fun a w y y' hp hle hr hb => by
  obtain ⟨b, e⟩ := hb
  refine ⟨[a.eval x], by simp, ?_, trivial⟩
  rw [h a w y hp b e]
  exact hr b e
theorem ArgsLent.two {an : Anc} {l : List PV} {p2 : PV} (h : AdrOk x ps an 0) (h2 : Opd x2 qs (.pv p2)) : ArgsLent #[x, x2] (ps ++ qs) an l [.ref l, p2] := fun a w y y' hp hle hr hb => by
  obtain ⟨b, e⟩ := hb
  refine ⟨[a.eval x, a.eval x2], by simp, ?_, p2.mono (Ev.less w hle) (h2 a w y hp.right), trivial⟩
  rw [h a w y hp.left b e]
  exact hr b e
theorem ArgsLent.three {an : Anc} {l : List PV} {p2 p3 : PV} (h : AdrOk x ps an 0) (h2 : Opd x2 qs (.pv p2)) (h3 : Opd x3 rs (.pv p3)) : ArgsLent #[x, x2, x3] (ps ++ (qs ++ rs)) an l [.ref l, p2, p3] := fun a w y y' hp hle hr hb => by
  obtain ⟨b, e⟩ := hb
  refine ⟨[a.eval x, a.eval x2, a.eval x3], by simp, ?_, p2.mono (Ev.less w hle) (h2 a w y hp.right.left), p3.mono (Ev.less w hle) (h3 a w y hp.right.right), trivial⟩
  rw [h a w y hp.left b e]
  exact hr b e
/-- A call that reads a block of one's own: what it tells is no matter of the memory. -/
theorem o_callR {f : FuncId} {args : Array Operand} {tys : Array TypeId} {an : Anc} {T : TypeId} {cells : List CF} {avs : List PV} {q : PV} {fn : Func} (n : Nat) (hc : FnP P f avs q) (hq : ∀ v w y w' y', q.p v w y → q.p v w' y') (hk : okCF cells = true)
    (hf : P.funcs[f]? = some fn) (hb : fn.body.isSome = true) (hn : (fn.name == "runtime.NumGoroutine") = false) (ha : ArgsLent args ps an (unCF cells) avs) :
    OpC P ⟨d, .call { callee := .value (.func f), args := args, argTypes := tys }, ty, pos, af, g⟩ ⟨ps, [(n, .pt an T cells)], .pv q, []⟩ := fun a w F K Q hw hp hr ht => by
  obtain ⟨b, us, e1, h1, h2, h3⟩ := pt_open (hr (n, .pt an T cells) (by simp))
  have hle := drop_le F n
  have hev := Ev.less w hle
  obtain ⟨vs, e, hvs⟩ := ha a w (U F) (U (drop F n)) hp hle (fun b' e' => by
    rw [e1] at e'
    simp only [Value.pointer.injEq, Option.some.injEq, Addr.mk.injEq] at e'
    obtain ⟨rfl, _⟩ := e'
    have hbF : F n b := (h2 b).2 rfl
    refine ⟨b, 0, us.toList, rfl, ?_, hw.bd n b hbF, cellsAt.mk fun j v hj => ?_, PVs.mono hev (PVs.unCF hk h3)⟩
    · rintro ⟨m, hm⟩
      unfold drop at hm
      by_cases e2 : m = n
      · simp only [e2, if_true] at hm
      · simp only [e2, if_false] at hm
        exact e2 (hw.dis m n b hm hbF)
    · simp only [Nat.zero_add]
      simp [World.cell?, h1]
      simpa using hj) ⟨b, e1⟩
  have hbn : fn.body ≠ none := by intro h; rw [h] at hb; cases hb
  have hn' : fn.name ≠ "runtime.NumGoroutine" := by intro h; rw [h] at hn; simp at hn
  have hrun : (execOp a.eval ⟨d, .call { callee := .value (.func f), args := args, argTypes := tys }, ty, pos, af, g⟩).run P w = .ok (.enter f vs.toArray) w := by
    have e2 : a.eval (.func f) = .func (.func f) #[] #[] := rfl
    simp [execOp, resolve, e, e2, Deferred.ofValue, invoke, callFunc, hf, hn', hbn]
  simp only [Oper.wp, hrun, Oper.upon]
  refine (hc w (U (drop F n)) vs (fun b hb => by obtain ⟨m, hm⟩ := hle b hb; exact hw.bd m b hm) hvs).mono ?_
  rintro e' w' ⟨v, rfl, hqv, hbel⟩
  have hst : Stp [] w F w' F := ⟨hbel.os, hbel.tape, hbel.output, hbel.size, fun b hb _ => hbel.block b hb, fun _ _ => rfl, fun _ h => by cases h⟩
  exact ht v w' F ⟨hw.dis, fun n b hn => Nat.lt_of_lt_of_le (hw.bd n b hn) hbel.size⟩ hst (hq _ _ _ _ _ hqv) (fun x hx => by cases hx)
end
/-- What is never met. -/
theorem OpC.never {P : Program} {o : Oper} (h : False) : OpC P o ⟨[], [], .pv (.bool false), []⟩ := h.elim
/-- Facts that say less. -/
def PVLe (p q : PV) : Prop := ∀ v w y, p.p v w y → q.p v w y
def PVsLe : List PV → List PV → Prop
  | [], [] => True
  | p :: ps, q :: qs => PVLe p q ∧ PVsLe ps qs
  | _, _ => False
theorem PVLe.refl {p : PV} : PVLe p p := fun _ _ _ h => h
theorem PVLe.nilSl {α : Type} {R : α → List PV} : PVLe (.is (.slice none 0 0)) (.sl R []) := fun v w y h => Ent.nilSl (fun _ => v) w y v h
theorem PVLe.of {p q : PV} (h : p = q) : PVLe p q := by subst h; exact PVLe.refl
theorem PVs.le {w y} : ∀ {ps qs : List PV} {vs : List Value}, PVsLe ps qs → PVs ps vs w y → PVs qs vs w y
  | [], [], [], _, _ => trivial
  | p :: ps, q :: qs, v :: vs, h, k => ⟨⟨k.1.1, h.1 _ _ _ k.1.2⟩, PVs.le h.2 k.2⟩
  | [], [], _ :: _, _, k => k.elim
  | _ :: _, _ :: _, [], _, k => k.elim
  | [], _ :: _, _, h, _ => h.elim
  | _ :: _, [], _, h, _ => h.elim
theorem one_arr {n : Nat} {l : List PV} : ∀ v w yy, (PV.arr n l).p v w yy → v.oneCell' = true := fun v w yy ⟨b, vs, e, _⟩ => by rw [e]; rfl
theorem PVLe.arrSl {α : Type} {R : α → List PV} {l : List PV} {l' : List α} (h : Nat.ble l'.length maxLen = true) (e : PVsLe l (l'.flatMap R)) : PVLe (.arr l'.length l) (.sl R l') := fun v w y ⟨b, vs, e1, h1, h2, h3, h4⟩ =>
  Ent.arrSl h (fun _ => v) w y v ⟨b, vs, e1, h1, h2, h3, PVs.le e h4⟩
theorem CFs.ofUn {w y} {τ : Tau} : ∀ {cs : List CF} {vs : List Value}, okCF cs = true → PVs (Go.Gm.unCF cs) vs w y → CFs τ w y cs vs
  | [], [], _, _ => trivial
  | .pv p :: cs, v :: vs, h, k => ⟨k.1, CFs.ofUn h k.2⟩
  | .same _ :: cs, v :: vs, h, k => by cases h
  | [], _ :: _, _, k => k.elim
  | .pv _ :: _, [], _, k => k.elim
  | .same _ :: _, [], _, k => k.elim
theorem Ent.paggLe {l l' : List PV} (e : PVsLe l l') : Ent (.pv (.agg l)) (.pv (.agg l')) := fun τ w y v ⟨vs, e', k⟩ => ⟨vs, e', PVs.le e k⟩
theorem Ent.aggLe {cs : List CF} {l : List PV} (h : okCF cs = true) (e : PVsLe (unCF cs) l) : Ent (.agg cs) (.pv (.agg l)) := Ent.trans (Ent.aggU h rfl) (Ent.paggLe e)
theorem ptLe {an : Anc} {T : TypeId} {cells cells' : List CF} (h : okCF cells = true) (h' : okCF cells' = true) (e : PVsLe (unCF cells) (unCF cells')) (τ : Tau) (w : World) (f y : Ys) (k : (RS.pt an T cells).holds τ w f y) : (RS.pt an T cells').holds τ w f y := by
  obtain ⟨b, vs, e1, h1, h2, h3⟩ := k
  exact ⟨b, vs, e1, h1, h2, CFs.ofUn h' (PVs.le e (PVs.unCF h h3))⟩
theorem Tells.none : Tells [] (.tup []) := fun τ w y vs hs => by
  match vs, hs with
  | [], _ => exact ⟨[], rfl, trivial⟩
theorem CFs.setAt {w w' y y'} {τ : Tau} (hev : Ev w y w' y') {v : Value} {p : PV} : ∀ {cs : List CF} {vs : List Value} (k : Nat), okCF cs = true → cs[k]? = some (.pv (.is v)) → (v.oneCell' = true → p.p v w' y') → CFs τ w y cs vs → CFs τ w' y' (cs.set k (.pv p)) vs
  | [], _, _, _, h, _, _ => by simp at h
  | c :: cs, [], _, _, _, _, k => k.elim
  | .same _ :: cs, _ :: _, _, h, _, _, _ => by cases h
  | .pv q :: cs, u :: us, 0, h0, h, hp, k => by
    simp at h
    subst h
    refine ⟨⟨k.1.1, ?_⟩, CFs.ofUn (by exact h0) (PVs.mono hev (PVs.unCF (by exact h0) k.2))⟩
    have e : u = v := k.1.2.1
    show p.p u w' y'
    have h1 := k.1.2.2
    rw [e] at h1 ⊢
    exact hp h1
  | .pv q :: cs, u :: us, i + 1, h0, h, hp, k => ⟨⟨k.1.1, q.mono hev k.1.2⟩, CFs.setAt hev i (by exact h0) (by simpa using h) hp k.2⟩
section
variable {B : Base} {E : En} {a : Act} {w : World} {F : Fp}
/-- A row whose handle lies in a block is only read from now on. -/
theorem Sat.giveCell {α : Type} {T sz : Nat} {R : α → List PV} {l : List α} {v : Value} {an : Anc} {T' : TypeId} {cells : List CF} (h : Sat B E a w F) (n m k : Nat) (hn : look E.r n = some (.ob (.val v) (rowH T sz R l))) (hm : look E.r m = some (.pt an T' cells)) (hk : cells[k]? = some (.pv (.is v))) (ho : okCF cells = true) (hne : Nat.beq n m = false) :
    ∃ F', Sat B ⟨E.s, (m, .pt an T' (cells.set k (.pv (.sl R l)))) :: (n, RS.hp (HP.star [])) :: E.r⟩ a w F' := by
  have hle := drop_le F n
  have hev := Ev.less w hle
  have hne' : n ≠ m := by intro e; subst e; simp at hne
  refine ⟨drop F n, ⟨fun j i b hj hi => ?_, fun j b hj => ?_⟩, h.ev.trans hev, h.n, h.df, fun j s hj => SF.mono hev (fun _ _ => rfl) (h.s j s hj), fun j r hj => ?_, fun j b hj => ?_⟩
  · unfold drop at hj hi
    by_cases e1 : j = n
    · simp only [e1, if_true] at hj
    · by_cases e2 : i = n
      · simp only [e2, if_true] at hi
      · simp only [e1, e2, if_false] at hj hi; exact h.wf.dis j i b hj hi
  · obtain ⟨j', hj'⟩ := hle b ⟨j, hj⟩
    exact h.wf.bd j' b hj'
  · rw [look_cons] at hj
    split at hj
    · rename_i e
      subst e
      simp only [Option.some.injEq] at hj; subst hj
      obtain ⟨xs, h2, h3, h4⟩ := h.r n _ hn
      obtain ⟨b, us, e1, h5, h6, h7⟩ := h.r m _ hm
      have hF : drop F n m = F m := by unfold drop; rw [if_neg (Ne.symm hne')]
      rw [hF]
      refine ⟨b, us, e1, h5, h6, CFs.setAt hev k ho hk (fun _ => ?_) h7⟩
      simp only [Anc.v] at h2 h4
      obtain ⟨ad, cap, e8, h8, h9, h10⟩ := row_shape h2
      refine ⟨ad, cap, e8, h8, h9, ?_⟩
      rcases h10 with h10 | ⟨b', rfl, h11, h12⟩
      · exact .inl (List.eq_nil_of_length_eq_zero h10)
      · have hb : F n b' := (h4 b').2 h11
        refine .inr ⟨b', 0, xs, rfl, ?_, h.wf.bd n b' hb, h12, PVs.mono hev h3⟩
        rintro ⟨j, hj⟩
        unfold drop at hj
        by_cases e2 : j = n
        · simp only [e2, if_true] at hj
        · simp only [e2, if_false] at hj
          exact e2 (h.wf.dis j n b' hj hb)
    · rw [look_cons] at hj
      split at hj
      · rename_i e2 e
        simp only [Option.some.injEq] at hj; subst hj; subst e
        intro b hb
        unfold drop at hb
        simp only [if_true] at hb
      · rename_i e2 e
        have e3 : drop F n j = F j := by unfold drop; rw [if_neg (fun h => e h.symm)]
        rw [e3]
        exact RS.mono hev (fun _ _ => rfl) (fun _ _ => rfl) (h.r j r hj)
  · unfold drop at hj
    by_cases e1 : j = n
    · simp only [e1, if_true] at hj
    · simp only [e1, if_false] at hj
      by_cases e2 : m = j
      · exact ⟨_, by rw [look_cons, if_pos e2]⟩
      · obtain ⟨r, hr⟩ := h.em j b hj
        exact ⟨r, by rw [look_cons, if_neg e2, look_cons, if_neg (fun h => e1 h.symm)]; exact hr⟩
end
section
variable {P : Program} {d : Option Nat} {ty : TypeId} {pos : String} {af : Array Edge} {g : Option (Nat × Bool)} {ps : List (Nat × SF)}
/-- A call that reads a block of one's own and the row whose handle lies in it. -/
theorem o_callRR {α : Type} {f : FuncId} {args : Array Operand} {tys : Array TypeId} {an : Anc} {T T' : TypeId} {sz : Nat} {R : α → List PV} {lst : List α} {v : Value} {cells : List CF} {avs : List PV} {q : PV} {fn : Func} (n m k : Nat) (hc : FnP P f avs q) (hq : ∀ v w y w' y', q.p v w y → q.p v w' y') (hk : okCF cells = true)
    (hf : P.funcs[f]? = some fn) (hb : fn.body.isSome = true) (hn : (fn.name == "runtime.NumGoroutine") = false) (hck : cells[k]? = some (.pv (.is v))) (hk2 : okCF (cells.set k (.pv (.sl R lst))) = true) (ha : ArgsLent args ps an (unCF (cells.set k (.pv (.sl R lst)))) avs) :
    OpC P ⟨d, .call { callee := .value (.func f), args := args, argTypes := tys }, ty, pos, af, g⟩ ⟨ps, [(n, .pt an T cells), (m, .ob (.val v) (rowH T' sz R lst))], .pv q, []⟩ := fun a w F K Q hw hp hr ht => by
  obtain ⟨b, us, e1, h1, h2, h3⟩ := pt_open (hr (n, .pt an T cells) (by simp))
  obtain ⟨xs, r1, r2, r3⟩ := hr (m, .ob (.val v) (rowH T' sz R lst)) (by simp)
  have hle : ∀ b, U (drop (drop F n) m) b → U F b := fun b hb => drop_le F n b (drop_le (drop F n) m b hb)
  have hev := Ev.less w hle
  have hout : ∀ i b, F i b → (i = n ∨ i = m) → ¬ U (drop (drop F n) m) b := by
    rintro i b hib hi ⟨j, hj⟩
    unfold drop at hj
    by_cases e2 : j = m
    · simp only [e2, if_true] at hj
    · by_cases e3 : j = n
      · simp only [e2, e3, if_false, if_true] at hj
        split at hj
        · exact hj
        · exact hj
      · simp only [e2, e3, if_false] at hj
        have := hw.dis j i b hj hib
        rcases hi with rfl | rfl
        · exact e3 this
        · exact e2 this
  obtain ⟨vs, e, hvs⟩ := ha a w (U F) (U (drop (drop F n) m)) hp hle (fun b' e' => by
    rw [e1] at e'
    simp only [Value.pointer.injEq, Option.some.injEq, Addr.mk.injEq] at e'
    obtain ⟨rfl, _⟩ := e'
    have hbF : F n b := (h2 b).2 rfl
    refine ⟨b, 0, us.toList, rfl, hout n b hbF (.inl rfl), hw.bd n b hbF, cellsAt.mk fun j v hj => ?_, PVs.unCF hk2 (CFs.setAt hev k hk hck (fun _ => ?_) h3)⟩
    · simp only [Nat.zero_add]
      simp [World.cell?, h1]
      simpa using hj
    · simp only [Anc.v] at r1 r3
      obtain ⟨ad, cap, e8, h8, h9, h10⟩ := row_shape r1
      refine ⟨ad, cap, e8, h8, h9, ?_⟩
      rcases h10 with h10 | ⟨b', rfl, h11, h12⟩
      · exact .inl (List.eq_nil_of_length_eq_zero h10)
      · have hb' : F m b' := (r3 b').2 h11
        exact .inr ⟨b', 0, xs, rfl, hout m b' hb' (.inr rfl), hw.bd m b' hb', h12, PVs.mono hev r2⟩) ⟨b, e1⟩
  have hbn : fn.body ≠ none := by intro h; rw [h] at hb; cases hb
  have hn' : fn.name ≠ "runtime.NumGoroutine" := by intro h; rw [h] at hn; simp at hn
  have hrun : (execOp a.eval ⟨d, .call { callee := .value (.func f), args := args, argTypes := tys }, ty, pos, af, g⟩).run P w = .ok (.enter f vs.toArray) w := by
    have e2 : a.eval (.func f) = .func (.func f) #[] #[] := rfl
    simp [execOp, resolve, e, e2, Deferred.ofValue, invoke, callFunc, hf, hn', hbn]
  simp only [Oper.wp, hrun, Oper.upon]
  refine (hc w (U (drop (drop F n) m)) vs (fun b hb => by obtain ⟨m', hm⟩ := hle b hb; exact hw.bd m' b hm) hvs).mono ?_
  rintro e' w' ⟨v, rfl, hqv, hbel⟩
  have hst : Stp [] w F w' F := ⟨hbel.os, hbel.tape, hbel.output, hbel.size, fun b hb _ => hbel.block b hb, fun _ _ => rfl, fun _ h => by cases h⟩
  exact ht v w' F ⟨hw.dis, fun n b hn => Nat.lt_of_lt_of_le (hw.bd n b hn) hbel.size⟩ hst (hq _ _ _ _ _ hqv) (fun x hx => by cases hx)
end
section
variable {P : Program} {t ty : TypeId} {pos : String} {af : Array Edge} {g : Option (Nat × Bool)} {x y : Operand} {ps qs : List (Nat × SF)} {α : Type} {R : α → List PV} {l : List α}
theorem o_store_row1 {T sz i : Nat} {a : Anc} {v : α} {p : PV} (n : Nat) (hx : Opd x ps (.adr a (i * sz))) (hR : ∀ x, (R x).length = sz) (hi : i < l.length) (hy : Opd y qs (.pv p)) (hv : R v = [p]) (h1' : ∀ v w yy, p.p v w yy → v.oneCell' = true) (hs : (P.info? t).map (·.size) = some sz) :
    OpC P ⟨none, .store t x y, ty, pos, af, g⟩ ⟨ps ++ qs, [(n, .ob a (rowH T sz R l))], .pv .any, [(n, .ob a (rowH T sz R (l.set i v)))]⟩ := fun act w F K Q hw hp hr ht => by
  obtain ⟨xs, h1, h2, h3⟩ := hr (n, .ob a (rowH T sz R l)) (by simp)
  have ex0 : act.eval x = shift (i * sz) (a.v (Act.tau act)) := hx act w (U F) hp.left
  have hpv := hy act w (U F) hp.right
  have ho := h1' _ _ _ hpv
  obtain ⟨us, eu, hu⟩ : ∃ us : List Value, (act.eval y).cells = us.toArray ∧ PVs (R v) us w (U F) := by
    refine ⟨[act.eval y], ?_, by rw [hv]; exact ⟨⟨ho, hpv⟩, trivial⟩⟩
    cases e : act.eval y <;> rw [e] at ho <;> first | rfl | simp [Value.oneCell'] at ho
  have hul : us.length = sz := by rw [← hu.len, hR]
  have hxl := h1.1
  rcases h1.2 with ⟨_, h0⟩ | ⟨b, cap, cur, ev, _, hg, hnc, hcm, hcs, htake⟩
  · omega
  · have ex : act.eval x = .pointer (some ⟨b, i * sz, none⟩) := by rw [ex0, ev]; simp [shift]
    have hfit : i * sz + sz ≤ l.length * sz := by rw [← Nat.succ_mul]; exact Nat.mul_le_mul_right sz hi
    have hfit2 : l.length * sz ≤ cur.size := by rw [hcs]; exact Nat.mul_le_mul_right sz hnc
    have hst := run_storeCells_at P b (i * sz) T us 0 cur w hg (by omega) hu.one
    have hrun : (execOp act.eval ⟨none, .store t x y, ty, pos, af, g⟩).run P w = .ok .skip (w.setRow b (cur.toList.take (i * sz) ++ us ++ cur.toList.drop (i * sz + us.length)).toArray) := by
      simp [execOp, ex, Instr.storeAt, Instr.sureAddr, storeVar, run_sizeOf hs, eu, hul, hst]
    have hf : ∀ z, F n z ↔ z = b := fun z => by rw [h3 z, ev]; simp [Value.ownBlock, eq_comm]
    obtain ⟨g1, g2⟩ := set_block hw hg hf (cur.toList.take (i * sz) ++ us ++ cur.toList.drop (i * sz + us.length)).toArray
    simp only [Oper.wp, hrun, Oper.upon]
    refine ht undef _ F g1 g2 trivial ?_
    intro z hz
    simp only [List.mem_singleton] at hz
    subst hz
    have eτ : upd (Act.tau act) none undef = Act.tau act := by funext i; simp [upd]
    show RS.holds (upd (Act.tau act) none undef) _ _ _ _
    rw [eτ]
    refine ⟨xs.take (i * sz) ++ us ++ xs.drop (i * sz + sz), ⟨?_, .inr ⟨b, cap, _, by rw [List.length_set]; exact ev, Nat.zero_le _, setRow_heap w b cur _ T (0, 0) hg, by rw [List.length_set]; exact hnc, hcm, ?_, ?_⟩⟩, PVs.setR hR (PVs.mono g2.ev hu) i hi (PVs.mono g2.ev h2), h3⟩
    · rw [List.length_set, List.length_append, List.length_append, List.length_take, List.length_drop, hxl, hul]; omega
    · have : cur.toList.length = cur.size := by simp
      simp only [List.size_toArray, List.length_append, List.length_take, List.length_drop, this, hul]
      omega
    · rw [List.length_set]
      have := take_mid (cur := cur.toList) (us := us) (k := i * sz) (sz := sz) (N := l.length * sz) hfit hul (by simpa using hfit2)
      rw [htake] at this
      simpa using this
end
end Go.Gm
