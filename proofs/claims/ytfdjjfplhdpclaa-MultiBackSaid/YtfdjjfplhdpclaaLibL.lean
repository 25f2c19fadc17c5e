/- Walks: objects that are lent. No condition. -/
import Derived.Test.YtfdjjfplhdpclaaLibX
import Derived.Test.YtfdjjfplhdpclaaLibY
import Derived.Test.YtfdjjfplhdpclaaLibP

namespace Go.Gm
set_option linter.unusedVariables false
set_option linter.unusedSimpArgs false
/-- What is owned may be read as a fact, by whoever does not own it. -/
def Lend (h : HP) (v : Value) (pv : PV) : Prop := ∀ w f y y', h.p w f y → (∀ b, y' b → y b) → (∀ b, f b → ¬ y' b) → (∀ b, f b → b < w.heap.size) → pv.p v w y'
def lendSF (v : Value) : SF → SF
  | .pv _ => .pv (.is v)
  | .when c s => .when c (lendSF v s)
  | s => s
/-- Of the slots 'is' it is told only that they hold v. -/
def lendPs (is : List Nat) (v : Value) : List (Nat × SF) → List (Nat × SF)
  | [] => []
  | x :: l => (match is.contains x.1 with | true => (x.1, lendSF v x.2) | false => x) :: lendPs is v l
def lentSF (pv : PV) : SF → Prop
  | .pv p => p = pv
  | .when _ (.pv p) => p = pv
  | _ => False
def LentOk (is : List Nat) (pv : PV) : List (Nat × SF) → Prop
  | [] => True
  | x :: l => (match is.contains x.1 with | true => lentSF pv x.2 | false => True) ∧ LentOk is pv l
theorem lendPs_get {is : List Nat} {v : Value} {pv : PV} {τ : Tau} {w : World} {y y' : Ys} (hp : pv.p v w y') (hle : ∀ b, y' b → y b) : ∀ {ps : List (Nat × SF)}, LentOk is pv ps → Hps (lendPs is v ps) τ w y → Hps ps τ w y'
  | [], _, _ => fun x hx => by cases hx
  | x :: l, hk, h => by
    intro z hz
    rcases List.mem_cons.1 hz with rfl | hz
    · have h1 := h _ (by unfold lendPs; exact List.mem_cons_self ..)
      have h2 := hk.1
      cases e : is.contains z.1 with
      | false =>
        simp only [e] at h1
        exact SF.mono (Ev.less w hle) (fun _ _ => rfl) h1
      | true =>
        simp only [e] at h1 h2
        obtain ⟨i, s⟩ := z
        cases s with
        | pv p =>
          have e1 : p = pv := h2
          subst e1
          have e2 : τ i = v := h1.1
          show p.p (τ i) w y'
          rw [e2]; exact hp
        | when c s =>
          cases s with
          | pv p =>
            have e1 : p = pv := h2
            subst e1
            refine ⟨fun hc => ?_, h1.2⟩
            have e2 : τ i = v := (h1.1 hc).1
            show p.p (τ i) w y'
            rw [e2]; exact hp
          | _ => exact h2.elim
        | _ => exact h2.elim
    · exact lendPs_get hp hle hk.2 (fun x hx => h x (by unfold lendPs; exact List.mem_cons_of_mem _ hx)) z hz
def Free (s : SF) : Prop := ∀ τ w y y' v, s.holds τ w y v → s.holds τ w y' v
def FreeH (h : HP) : Prop := ∀ w f y y', h.p w f y → h.p w f y'
def Frees (h : HP) : List (Nat × RS) → Prop
  | [] => True
  | x :: l => (∀ τ w f0 y w' f y1 y', h.p w f0 y → Ev w y w' y' → x.2.holds τ w' f y1 → x.2.holds τ w' f y') ∧ Frees h l
theorem Frees.get {h : HP} : ∀ {l : List (Nat × RS)}, Frees h l → ∀ x ∈ l, ∀ τ w f0 y w' f y1 y', h.p w f0 y → Ev w y w' y' → x.2.holds τ w' f y1 → x.2.holds τ w' f y'
  | [], _, x, hx => by cases hx
  | z :: l, h, x, hx => by
    rcases List.mem_cons.1 hx with rfl | hx
    · exact h.1
    · exact h.2.get x hx
theorem Free.pv {p : PV} (h : ∀ v w y y', p.p v w y → p.p v w y') : Free (.pv p) := fun _ w y y' v => h v w y y'
def notIn (l : Nat) (c : CD) : Bool := c.pr.all (fun x => !Nat.beq x.1 l) && c.qr.all (fun x => !Nat.beq x.1 l)
/-- An operation that is told of an object as a fact, run by its owner. -/
theorem OpC.lend {P : Program} {o : Oper} {ps : List (Nat × SF)} {pr qr : List (Nat × RS)} {q : SF} (l : Nat) (is : List Nat) {v : Value} {h : HP} {pv : PV} (hl : Lend h v pv) (hc : OpC P o ⟨ps, pr, q, qr⟩) (hk : LentOk is pv ps) (hq : Free q) (hqr : Frees h qr) (hni : notIn l ⟨ps, pr, q, qr⟩ = true) :
    OpC P o ⟨lendPs is v ps, (l, RS.hp h) :: pr, q, qr⟩ := fun a w F K Q hw hp hr ht => by
  have hle := drop_le F l
  have hev := Ev.less w hle
  simp only [notIn, Bool.and_eq_true, List.all_eq_true, Bool.not_eq_true'] at hni
  have hn1 : ∀ x ∈ pr, x.1 ≠ l := fun x hx e => by have := hni.1 x hx; rw [e] at this; simp at this
  have hn2 : ∀ x ∈ qr, x.1 ≠ l := fun x hx e => by have := hni.2 x hx; rw [e] at this; simp at this
  have hW : l ∉ CD.W ⟨ps, pr, q, qr⟩ := by
    intro hm
    obtain ⟨x, hx, e⟩ := List.mem_map.1 hm
    exact hn2 x hx e
  have hh : h.p w (F l) (U F) := hr (l, RS.hp h) (List.mem_cons_self ..)
  have hsame : ∀ m, m ≠ l → drop F l m = F m := fun m hm => by unfold drop; rw [if_neg hm]
  have hdl : ∀ b, ¬ drop F l l b := fun b hb => by unfold drop at hb; simp only [if_true] at hb
  have hpv : pv.p v w (U (drop F l)) := hl w (F l) (U F) _ hh hle (fun b hb ⟨m, hm⟩ => by
    by_cases e : m = l
    · subst e; exact hdl b hm
    · rw [hsame m e] at hm; exact e (hw.dis m l b hm hb)) (fun b hb => hw.bd l b hb)
  refine hc a w (drop F l) K Q ⟨fun n m b hn hm => ?_, fun n b hn => ?_⟩ (lendPs_get hpv hle hk hp) (fun x hx => ?_) ?_
  · by_cases e1 : n = l
    · subst e1; exact absurd hn (hdl b)
    · by_cases e2 : m = l
      · subst e2; exact absurd hm (hdl b)
      · rw [hsame n e1] at hn; rw [hsame m e2] at hm; exact hw.dis n m b hn hm
  · obtain ⟨m, hm⟩ := hle b ⟨n, hn⟩
    exact hw.bd m b hm
  · have := hr x (List.mem_cons_of_mem _ hx)
    rw [hsame x.1 (hn1 x hx)]
    exact RS.mono hev (fun _ _ => rfl) (fun _ _ => rfl) this
  · intro u w' F' hwf' hst hqh hqrh
    have hF'l : ∀ b, ¬ F' l b := fun b hb => by rw [hst.fkeep l hW] at hb; exact hdl b hb
    have hout : ∀ n, n ≠ l → ∀ b, F' n b → ¬ F l b := by
      intro n hn b hb hbl
      by_cases e : n ∈ CD.W ⟨ps, pr, q, qr⟩
      · rcases hst.fnew n e b hb with ⟨m, hm, hmb⟩ | hge
        · have hml : m ≠ l := fun e => by subst e; exact hW hm
          rw [hsame m hml] at hmb
          exact hml (hw.dis m l b hmb hbl)
        · exact absurd (hw.bd l b hbl) (by omega)
      · rw [hst.fkeep n e, hsame n hn] at hb
        exact hn (hw.dis n l b hb hbl)
    have hsame' : ∀ m, m ≠ l → (fun m => if m = l then F l else F' m) m = F' m := fun m hm => by simp only [hm, if_false]
    have hst3 : Stp (CD.W ⟨lendPs is v ps, (l, RS.hp h) :: pr, q, qr⟩) w F w' (fun m => if m = l then F l else F' m) := by
      refine ⟨hst.os, hst.tape, hst.output, hst.size, fun b hb hn => ?_, fun n hn => ?_, fun n hn b hb => ?_⟩
      · refine hst.keep b hb (fun n hn' => ?_)
        by_cases e : n = l
        · subst e; exact hdl b
        · rw [hsame n e]; exact hn n hn'
      · by_cases e : n = l
        · subst e; simp only [if_true]
        · simp only [e, if_false]
          have := hst.fkeep n hn
          rw [this, hsame n e]
      · have hnl : n ≠ l := fun e => by subst e; exact hW hn
        simp only [hnl, if_false] at hb
        rcases hst.fnew n hn b hb with ⟨m, hm, hmb⟩ | hge
        · have hml : m ≠ l := fun e => by subst e; exact hW hm
          exact .inl ⟨m, hm, by rw [hsame m hml] at hmb; exact hmb⟩
        · exact .inr hge
    refine ht u w' (fun m => if m = l then F l else F' m) ⟨fun n m b hn hm => ?_, fun n b hn => ?_⟩ hst3 (hq _ _ _ _ _ hqh) (fun x hx => ?_)
    · by_cases e1 : n = l <;> by_cases e2 : m = l <;> simp only [e1, e2, if_true, if_false] at hn hm
      · rw [e1, e2]
      · exact absurd hn (hout m e2 b hm)
      · exact absurd hm (hout n e1 b hn)
      · exact hwf'.dis n m b hn hm
    · by_cases e1 : n = l <;> simp only [e1, if_true, if_false] at hn
      · exact Nat.lt_of_lt_of_le (hw.bd l b hn) hst.size
      · exact hwf'.bd n b hn
    · have := hqrh x hx
      have e : (fun m => if m = l then F l else F' m) x.1 = F' x.1 := if_neg (hn2 x hx)
      rw [e]
      exact hqr.get x hx _ _ _ _ _ _ _ _ hh hst3.ev this
section
variable {P : Program} {d : Option Nat} {ty : TypeId} {pos : String} {af : Array Edge} {g : Option (Nat × Bool)}
/-- Two objects. -/
theorem o_callG2 {f : FuncId} {args : Array Operand} {tys : Array TypeId} {d' : Nat} {ps : List (Nat × SF)} {avs : List PV} {h1 h2 : HP} {k1 k2 : Value → HP} {q : PV} {fn : Func} (n1 n2 : Nat)
    (hc : FnG P f 2 avs [h1, h2] q (fun v => [k1 v, k2 v])) (hf : P.funcs[f]? = some fn) (hb : fn.body.isSome = true) (hn : (fn.name == "runtime.NumGoroutine") = false) (hne : Nat.beq n1 n2 = false)
    (ha : ∀ (a : Act) w y, Hps ps (Act.tau a) w y → ∃ vs : List Value, args.map a.eval = vs.toArray ∧ PVt avs vs w y) :
    OpC P ⟨some d', .call { callee := .value (.func f), args := args, argTypes := tys }, ty, pos, af, g⟩ ⟨ps, [(n1, RS.hp h1), (n2, RS.hp h2)], .pv q, [(n1, .ob (.slot d') k1), (n2, .ob (.slot d') k2)]⟩ :=
  o_callG (is := [n1, n2]) hc hf hb hn ha rfl (by have : n1 ≠ n2 := fun e => by subst e; simp at hne
                                                  simp [this]) (fun τ w F hr i x hi => by
      match i, hi with
      | 0, hi => simp at hi; subst hi; exact ⟨n1, rfl, hr (n1, RS.hp h1) (by simp)⟩
      | 1, hi => simp at hi; subst hi; exact ⟨n2, rfl, hr (n2, RS.hp h2) (by simp)⟩)
    (fun _ _ _ _ h => h) (fun x hx => by
      simp only [List.mem_cons, List.not_mem_nil, or_false] at hx
      rcases hx with rfl | rfl
      · exact ⟨0, rfl, fun v τ w f y ⟨k, hk, hp⟩ => by simp at hk; subst hk; simpa [RS.holds, Anc.v, upd] using hp⟩
      · exact ⟨1, rfl, fun v τ w f y ⟨k, hk, hp⟩ => by simp at hk; subst hk; simpa [RS.holds, Anc.v, upd] using hp⟩) rfl (fun _ => rfl)
end
/-- A fact that owns nothing, once more. -/
theorem Sat.dupG {B : Base} {E : En} {a : Act} {w : World} {F : Fp} {p : PV} {u : Value} (h : Sat B E a w F) (n m : Nat) (hn : look E.r n = some (RS.hp (gH p u))) (hm : look E.r m = none) : Sat B ⟨E.s, (m, RS.hp (gH p u)) :: E.r⟩ a w F := by
  have hF : ∀ b, ¬ F m b := fun b hb => by obtain ⟨r, hr⟩ := h.em m b hb; rw [hm] at hr; cases hr
  have hg : (gH p u).p w (F n) (U F) := h.r n _ hn
  refine h.repart F (fun _ => Iff.rfl) h.wf.dis (fun k r hk => ?_) (fun k b hb => ?_)
  · rw [look_cons] at hk
    split at hk
    · rename_i e
      simp only [Option.some.injEq] at hk; subst hk; subst e
      exact ⟨hF, hg.2⟩
    · exact h.r k r hk
  · rw [look_cons]
    split
    · exact ⟨_, rfl⟩
    · exact h.em k b hb
/-- Some facts of a list. -/
def sel {α : Type} (l : List (Nat × α)) : List Nat → List (Nat × α)
  | [] => []
  | k :: ks => match look l k with
    | some x => (k, x) :: sel l ks
    | none => sel l ks
/-- A loop: what changes is told for each round; the rest is as it was ahead of it. -/
theorem loop_keep {P : Program} {Q : Exit → Act → World → Prop} {B : Base} {c : Code} {σ : Type} (ks rs : List Nat) (cs : σ → List (Nat × SF)) (cr : σ → List (Nat × RS)) (C : σ → Prop) (μ : σ → Nat) {E : En} {a : Act} {w : World} {F : Fp} (s0 : σ)
    (hS : Sat B E a w F) (hl : Looks E.s (cs s0 ++ sel E.s ks)) (hr : Looks E.r (cr s0 ++ sel E.r rs)) (c0 : C s0)
    (round : ∀ s a w F, C s → Sat B ⟨cs s ++ sel E.s ks, cr s ++ sel E.r rs⟩ a w F → c.wp P (Exit.then (fun a' w' => ∃ s' F', C s' ∧ Sat B ⟨cs s' ++ sel E.s ks, cr s' ++ sel E.r rs⟩ a' w' F' ∧ μ s' < μ s) Q) a w) : (Code.loop c).wp P Q a w := by
  obtain ⟨F', h0⟩ := hS.norm _ _ hl hr
  exact loop_inv (fun s => ⟨cs s ++ sel E.s ks, cr s ++ sel E.r rs⟩) C μ s0 h0 c0 round
section
variable {P : Program} {d : Option Nat} {ty : TypeId} {pos : String} {af : Array Edge} {g : Option (Nat × Bool)}
/-- A tuple's part, known by its tuple. -/
theorem o_extractA {j : Nat} {l : List PV} {i : Nat} (hi : Nat.blt i l.length = true) (h9 : Nat.beq i 999 = false) (hd : depOk d (.adr (.slot j) i) = true) : OpC P ⟨d, .extract (.tmp j) i, ty, pos, af, g⟩ ⟨[(j, .pv (.tup l))], [], .adr (.slot j) i, []⟩ :=
  OpC.pure fun a w yy hp => by
    obtain ⟨vs, e, h⟩ := hp (j, .pv (.tup l)) (by simp)
    have hlen := h.len
    have hi' : i < vs.length := by rw [← hlen]; simpa [Nat.blt_eq] using hi
    refine ⟨vs[i], ?_, fun τ' ht => depOk_mono hd ht ?_⟩
    · have hg : vs.toArray[i]? = some vs[i] := by simp [hi']
      simp [execOp, Instr.extract, Act.eval_tmp, e, hi']
    · have h9' : i ≠ 999 := fun e => by subst e; simp at h9
      simp [SF.holds, Anc.v, e, shift, hi', h9']
theorem o_moveT {j : Nat} {l : List PV} (hd : depOk d (.adr (.slot j) 999) = true) : OpC P ⟨d, .move (.tmp j), ty, pos, af, g⟩ ⟨[(j, .pv (.tup l))], [], .adr (.slot j) 999, []⟩ :=
  OpC.pure fun a w yy hp => by
    obtain ⟨vs, e, h⟩ := hp (j, .pv (.tup l)) (by simp)
    refine ⟨.tuple vs.toArray, by simp [execOp, Act.eval_tmp, e], fun τ' ht => depOk_mono hd ht ?_⟩
    simp [SF.holds, Anc.v, e, shift]
theorem o_extractC {j m : Nat} {l : List PV} {i : Nat} (hi : Nat.blt i l.length = true) (h9 : Nat.beq i 999 = false) (hd : depOk d (.adr (.slot j) i) = true) : OpC P ⟨d, .extract (.tmp m) i, ty, pos, af, g⟩ ⟨[(m, .adr (.slot j) 999), (j, .pv (.tup l))], [], .adr (.slot j) i, []⟩ :=
  OpC.pure fun a w yy hp => by
    obtain ⟨vs, e, h⟩ := hp (j, .pv (.tup l)) (by simp)
    have e1 := hp (m, .adr (.slot j) 999) (by simp)
    simp only [SF.holds, Anc.v, e, shift, if_true] at e1
    have hlen := h.len
    have hi' : i < vs.length := by rw [← hlen]; simpa [Nat.blt_eq] using hi
    have h9' : i ≠ 999 := fun e => by subst e; simp at h9
    refine ⟨vs[i], ?_, fun τ' ht => depOk_mono hd ht ?_⟩
    · simp [execOp, Instr.extract, Act.eval_tmp, e1, hi']
    · simp [SF.holds, Anc.v, e, shift, hi', h9']
theorem PVt.get {w : World} {yy : Ys} : ∀ {l : List PV} {vs : List Value} {i : Nat} {p : PV}, PVt l vs w yy → l[i]? = some p → ∃ v, vs[i]? = some v ∧ p.p v w yy
  | [], _, _, _, _, h => by simp at h
  | q :: l, v :: vs, 0, p, h, hi => by simp at hi; subst hi; exact ⟨v, rfl, h.1⟩
  | q :: l, v :: vs, i + 1, p, h, hi => by
    obtain ⟨u, h1, h2⟩ := PVt.get h.2 (i := i) (by simpa using hi)
    exact ⟨u, by simpa using h1, h2⟩
  | q :: l, [], _, _, h, _ => h.elim
theorem o_extractB {j m : Nat} {l : List PV} {i : Nat} {p : PV} (hi : l[i]? = some p) : OpC P ⟨d, .extract (.tmp m) i, ty, pos, af, g⟩ ⟨[(m, .adr (.slot j) 999), (j, .pv (.tup l))], [], .pv p, []⟩ :=
  OpC.pure fun a w yy hp => by
    obtain ⟨vs, e, h⟩ := hp (j, .pv (.tup l)) (by simp)
    have e1 := hp (m, .adr (.slot j) 999) (by simp)
    simp only [SF.holds, Anc.v, e, shift, if_true] at e1
    obtain ⟨v, h1, h2⟩ := PVt.get h hi
    refine ⟨v, ?_, fun τ' ht => h2⟩
    simp [execOp, Instr.extract, Act.eval_tmp, e1, h1]
theorem Ent.part {v V : Value} {k : Nat} (h : shift k v = V) (h1 : V.oneCell' = true) : Ent (.adr (.val v) k) (.pv (.is V)) := fun τ w y u hu => by
  have e : u = shift k v := hu
  exact ⟨e.trans h, by rw [e.trans h]; exact h1⟩
end
section
variable {B : Base} {E : En} {a : Act} {w : World} {F : Fp}
/-- Another number for what is owned. -/
theorem Sat.rename {r : RS} (h : Sat B E a w F) (n m : Nat) (hn : look E.r n = some r) (hm : look E.r m = none) : ∃ F', Sat B ⟨E.s, (m, r) :: (n, RS.hp (HP.star [])) :: E.r⟩ a w F' := by
  have hne : n ≠ m := fun e => by subst e; rw [hn] at hm; cases hm
  have hF : ∀ b, ¬ F m b := fun b hb => by obtain ⟨r, hr⟩ := h.em m b hb; rw [hm] at hr; cases hr
  refine ⟨fun k => if k = m then F n else if k = n then fun _ => False else F k, h.repart _ (fun b => ⟨?_, ?_⟩) (fun i j b hi hj => ?_) (fun k r' hk => ?_) (fun k b hb => ?_)⟩
  · rintro ⟨k, hk⟩
    by_cases e1 : k = m
    · simp only [e1, if_true] at hk; exact ⟨n, hk⟩
    · by_cases e2 : k = n
      · simp only [e1, e2, if_false, if_true] at hk
        split at hk
        · exact ⟨n, hk⟩
        · exact hk.elim
      · simp only [e1, e2, if_false] at hk; exact ⟨k, hk⟩
  · rintro ⟨k, hk⟩
    by_cases e2 : k = n
    · subst e2; exact ⟨m, by simp only [if_true]; exact hk⟩
    · by_cases e1 : k = m
      · subst e1; exact absurd hk (hF b)
      · exact ⟨k, by simp only [e1, e2, if_false]; exact hk⟩
  · by_cases i1 : i = m <;> by_cases j1 : j = m
    · rw [i1, j1]
    · by_cases j2 : j = n
      · simp only [j2, hne, if_false, if_true] at hj
      · simp only [i1, j1, j2, if_false, if_true] at hi hj
        exact absurd (h.wf.dis _ _ b hi hj).symm j2
    · by_cases i2 : i = n
      · simp only [i2, hne, if_false, if_true] at hi
      · simp only [i1, j1, i2, if_false, if_true] at hi hj
        exact absurd (h.wf.dis _ _ b hi hj) i2
    · by_cases i2 : i = n
      · simp only [i2, hne, if_false, if_true] at hi
      · by_cases j2 : j = n
        · simp only [j2, hne, if_false, if_true] at hj
        · simp only [i1, j1, i2, j2, if_false] at hi hj
          exact h.wf.dis _ _ b hi hj
  · rw [look_cons] at hk
    split at hk
    · rename_i e
      simp only [Option.some.injEq] at hk; subst hk; subst e
      simp only [if_true]
      exact h.r n _ hn
    · rename_i e
      rw [look_cons] at hk
      split at hk
      · rename_i e2
        simp only [Option.some.injEq] at hk; subst hk; subst e2
        simp only [hne, if_false, if_true]
        exact fun b hb => hb
      · rename_i e2
        have : (if k = m then F n else if k = n then fun _ => False else F k) = F k := by rw [if_neg (fun h => e h.symm), if_neg (fun h => e2 h.symm)]
        rw [this]
        exact h.r k r' hk
  · rw [look_cons, look_cons]
    by_cases e1 : m = k
    · exact ⟨r, by rw [if_pos e1]⟩
    · by_cases e2 : n = k
      · exact ⟨_, by rw [if_neg e1, if_pos e2]⟩
      · rw [if_neg e1, if_neg e2]
        have e3 : (if k = m then F n else if k = n then fun _ => False else F k) = F k := by rw [if_neg (fun h => e1 h.symm), if_neg (fun h => e2 h.symm)]
        rw [e3] at hb
        exact h.em k b hb
end
/-- Two objects at a return, the first one known by the result's first part. -/
theorem ret_G2f {P : Program} {B : Base} {F0 : Fp} (hG : BaseG B F0 2) {E : En} {a : Act} {w : World} {F : Fp} {fn : Func} {q : PV} {k1 : Value → HP} {k2 : HP} {v0 : Value} {s2 : SF} {ss : List SF} (hS : Sat B E a w F) (h0 : look E.r 0 = some (frame B)) (hr : ROk P E fn.results.toList (.pv (.is v0) :: s2 :: ss)) (hq : Tells (.pv (.is v0) :: s2 :: ss) q)
    (h1 : look E.r 1 = some (RS.hp (k1 v0))) (h2 : look E.r 2 = some (RS.hp k2)) : bodyPost P fn (RG B F0 2 q (fun v => [k1 (shift 0 v), k2])) .ret a w :=
  ret_G hG hS h0 hr hq fun v τ y hv i h hi => by
    obtain ⟨vs, rfl, hvs⟩ := hv
    match vs, hvs with
    | u :: u2 :: us, hvs =>
      have e : u = v0 := hvs.1.1
      subst e
      match i, hi with
      | 0, hi => simp [valOf, shift] at hi; subst hi; exact ⟨_, h1, by omega, fun _ _ _ h => h⟩
      | 1, hi => simp at hi; subst hi; exact ⟨_, h2, by omega, fun _ _ _ h => h⟩
    | [u], hvs => exact hvs.2.elim
/-- Two objects at a return, the second one known by the result. -/
theorem ret_N2 {P : Program} {B : Base} {F0 : Fp} (hG : BaseG B F0 2) {E : En} {a : Act} {w : World} {F : Fp} {fn : Func} {q : PV} {k1 : HP} {k2 : Value → HP} {v0 : Value} (hS : Sat B E a w F) (h0 : look E.r 0 = some (frame B)) (hr : ROk P E fn.results.toList [.pv (.is v0)]) (hq : Tells [.pv (.is v0)] q)
    (h1 : look E.r 1 = some (RS.hp k1)) (h2 : look E.r 2 = some (RS.hp (k2 v0))) : bodyPost P fn (RG B F0 2 q (fun v => [k1, k2 v])) .ret a w :=
  ret_G hG hS h0 hr hq fun v τ y hv i h hi => by
    obtain ⟨vs, rfl, hvs⟩ := hv
    match vs, hvs with
    | [u], hvs =>
      have e : u = v0 := hvs.1.1
      subst e
      match i, hi with
      | 0, hi => simp at hi; subst hi; exact ⟨_, h1, by omega, fun _ _ _ h => h⟩
      | 1, hi => simp [valOf] at hi; subst hi; exact ⟨_, h2, by omega, fun _ _ _ h => h⟩
/-- A contract beside a fact that owns nothing. -/
theorem starG {h : RS} {p : PV} {u : Value} {w : World} {f y : Ys} (hd : h.deps = []) : (HP.star [h, RS.hp (gH p u)]).p w f y ↔ h.holds tau0 w f y ∧ p.p u w y := by
  constructor
  · rintro ⟨f1, f2, e1, _, _, h1, f3, f4, e2, _, _, ⟨hn, hp⟩, h4⟩
    have e : f1 = f := by
      funext b
      refine propext ⟨fun hb => (e1 b).2 (.inl hb), fun hb => ?_⟩
      rcases (e1 b).1 hb with hb | hb
      · exact hb
      · rcases (e2 b).1 hb with hb | hb
        · exact absurd hb (hn b)
        · exact absurd hb (h4 b)
    subst e
    exact ⟨h1, hp⟩
  · rintro ⟨h1, hp⟩
    exact ⟨f, fun _ => False, fun b => by simp, fun b _ h => h, hd, h1, fun _ => False, fun _ => False, fun b => by simp, fun b h => h.elim, rfl, ⟨fun b h => h, hp⟩, fun b h => h⟩
section
variable {P : Program} {ty : TypeId} {pos : String} {af : Array Edge} {g : Option (Nat × Bool)}
/-- A new object, where something is handed over for it. -/
theorem o_callNg {f : FuncId} {args : Array Operand} {tys : Array TypeId} {d' : Nat} {ps : List (Nat × SF)} {avs : List PV} {h : HP} {h' : Value → HP} {q : PV} {fn : Func} (n : Nat)
    (hc : FnG P f 1 avs [h] q (fun v => [h' v])) (hf : P.funcs[f]? = some fn) (hb : fn.body.isSome = true) (hn : (fn.name == "runtime.NumGoroutine") = false)
    (ha : ∀ (a : Act) w y, Hps ps (Act.tau a) w y → ∃ vs : List Value, args.map a.eval = vs.toArray ∧ PVt avs vs w y) (h1 : ∀ v w y, q.p v w y → v.oneCell' = true) :
    OpC P ⟨some d', .call { callee := .value (.func f), args := args, argTypes := tys }, ty, pos, af, g⟩ ⟨ps, [(n, RS.hp h)], .same d', [(n, RS.ob (.slot d') h')]⟩ :=
  o_callG (is := [n]) hc hf hb hn ha rfl (by simp) (fun τ w F hr i x hi => by
      match i, hi with
      | 0, hi => simp at hi; subst hi; exact ⟨n, rfl, hr (n, RS.hp h) (by simp)⟩)
    (fun _ _ _ _ h => ⟨by simp [upd], h1 _ _ _ h⟩) (fun x hx => by
      simp only [List.mem_singleton] at hx
      subst hx
      exact ⟨0, rfl, fun v τ w f y ⟨k, hk, hp⟩ => by
        simp at hk; subst hk
        simpa [RS.holds, Anc.v, upd] using hp⟩) rfl (fun _ => rfl)
/-- A pointer that is known not to be nil, held against nil. -/
theorem o_nn_eql {d : Option Nat} {t t' : TypeId} {x : Operand} {ps : List (Nat × SF)} {p : PV} {ty' : TypeId} (hu : P.underlying t = some (.pointer ty')) (hp : ∀ v w y, p.p v w y → ∃ b k, v = .pointer (some ⟨b, k, none⟩)) (hx : Opd x ps (.pv p)) :
    OpC P ⟨d, .binOp .eql t x (.const (.pointer none)) t', ty, pos, af, g⟩ ⟨ps, [], .pv (.bool false), []⟩ :=
  OpC.pure fun a w yy h => by
    obtain ⟨b, k, e1⟩ := hp _ _ _ (hx a w yy h)
    refine ⟨.bool false, ?_, fun _ _ => rfl⟩
    have hg : (eqGuard .eql t x (.const (.pointer none)) (.pointer (some ⟨b, k, none⟩)) (.pointer none)).run P w = .ok () w := rfl
    have hr := run_eql_pointer_nil (P := P) w t (some ⟨b, k, none⟩) (pointee_eq hu)
    simp only [execOp, e1, ev_const, Sem.run_bind, hg, Result.andThen_ok, hr, Sem.run_pure, Option.isNone_some]
theorem o_nn_neq {d : Option Nat} {t t' : TypeId} {x : Operand} {ps : List (Nat × SF)} {p : PV} {ty' : TypeId} (hu : P.underlying t = some (.pointer ty')) (hp : ∀ v w y, p.p v w y → ∃ b k, v = .pointer (some ⟨b, k, none⟩)) (hx : Opd x ps (.pv p)) :
    OpC P ⟨d, .binOp .neq t x (.const (.pointer none)) t', ty, pos, af, g⟩ ⟨ps, [], .pv (.bool true), []⟩ :=
  OpC.pure fun a w yy h => by
    obtain ⟨b, k, e1⟩ := hp _ _ _ (hx a w yy h)
    refine ⟨.bool true, ?_, fun _ _ => rfl⟩
    have hg : (eqGuard .neq t x (.const (.pointer none)) (.pointer (some ⟨b, k, none⟩)) (.pointer none)).run P w = .ok () w := rfl
    have hr := run_neq_pointer_nil (P := P) w t (some ⟨b, k, none⟩) (pointee_eq hu)
    simp only [execOp, e1, ev_const, Sem.run_bind, hg, Result.andThen_ok, hr, Sem.run_pure, Option.isNone_some, Bool.not_false]
end
theorem Tells.four {s1 s2 s3 s4 : SF} {q1 q2 q3 q4 : PV} (h1 : Ent s1 (.pv q1)) (h2 : Ent s2 (.pv q2)) (h3 : Ent s3 (.pv q3)) (h4 : Ent s4 (.pv q4)) : Tells [s1, s2, s3, s4] (.tup [q1, q2, q3, q4]) := fun τ w y vs hs => by
  match vs, hs with
  | [u, v, x, z], hs => exact ⟨[u, v, x, z], rfl, h1 τ w y u hs.1, h2 τ w y v hs.2.1, h3 τ w y x hs.2.2.1, h4 τ w y z hs.2.2.2.1, trivial⟩
section
variable {P : Program} {ty : TypeId} {pos : String} {af : Array Edge} {g : Option (Nat × Bool)}
/-- An object that is read, and a new one. -/
theorem o_callG2N {f : FuncId} {args : Array Operand} {tys : Array TypeId} {d' : Nat} {ps : List (Nat × SF)} {avs : List PV} {h1 h2 k1 : HP} {k2 : Value → HP} {q : PV} {fn : Func} (n1 n2 : Nat)
    (hc : FnG P f 2 avs [h1, h2] q (fun v => [k1, k2 v])) (hf : P.funcs[f]? = some fn) (hb : fn.body.isSome = true) (hn : (fn.name == "runtime.NumGoroutine") = false) (hne : Nat.beq n1 n2 = false)
    (ha : ∀ (a : Act) w y, Hps ps (Act.tau a) w y → ∃ vs : List Value, args.map a.eval = vs.toArray ∧ PVt avs vs w y) (hone : ∀ v w y, q.p v w y → v.oneCell' = true) :
    OpC P ⟨some d', .call { callee := .value (.func f), args := args, argTypes := tys }, ty, pos, af, g⟩ ⟨ps, [(n1, RS.hp h1), (n2, RS.hp h2)], .same d', [(n1, RS.hp k1), (n2, .ob (.slot d') k2)]⟩ :=
  o_callG (is := [n1, n2]) hc hf hb hn ha rfl (by have : n1 ≠ n2 := fun e => by subst e; simp at hne
                                                  simp [this]) (fun τ w F hr i x hi => by
      match i, hi with
      | 0, hi => simp at hi; subst hi; exact ⟨n1, rfl, hr (n1, RS.hp h1) (by simp)⟩
      | 1, hi => simp at hi; subst hi; exact ⟨n2, rfl, hr (n2, RS.hp h2) (by simp)⟩)
    (fun _ _ _ _ h => ⟨by simp [upd], hone _ _ _ h⟩) (fun x hx => by
      simp only [List.mem_cons, List.not_mem_nil, or_false] at hx
      rcases hx with rfl | rfl
      · exact ⟨0, rfl, fun v τ w f y ⟨k, hk, hp⟩ => by simp at hk; subst hk; exact hp⟩
      · exact ⟨1, rfl, fun v τ w f y ⟨k, hk, hp⟩ => by simp at hk; subst hk; simpa [RS.holds, Anc.v, upd] using hp⟩) rfl (fun _ => rfl)
end
end Go.Gm

namespace Go.Gm
set_option linter.unusedVariables false
set_option linter.unusedSimpArgs false

def PV.nm (v : Value) : PV := ⟨fun u _ _ => u = v, fun _ h => h⟩
def OpdF (j : Nat) (x : Operand) (ps : List (Nat × SF)) (p : Value → PV) : Prop := ∀ (a : Act) w y, Hps ps (Act.tau a) w y → (p (Act.tau a j)).p (a.eval x) w y
theorem OpdF.same {j : Nat} : OpdF j (.tmp j) [(j, .same j)] (fun v => .is v) := fun a w y h => by
  have := h (j, .same j) (by simp)
  exact ⟨rfl, this.2⟩
theorem OpdF.of {j : Nat} {x : Operand} {ps : List (Nat × SF)} {p : PV} (h : Opd x ps (.pv p)) : OpdF j x ps (fun _ => p) := fun a w y hp => h a w y hp
theorem OpdF.fn {j i : Nat} {p : Value → PV} : OpdF j (.tmp i) [(i, .fn j p)] p := fun a w y h => h (i, .fn j p) (by simp)
theorem OpdF.conv {j : Nat} {x : Operand} {ps : List (Nat × SF)} {p p' : Value → PV} (h : OpdF j x ps p) (e : ∀ u v w y, (p u).p v w y → (p' u).p v w y) : OpdF j x ps p' := fun a w y hp => e _ _ _ _ (h a w y hp)
def ArgsF (j : Nat) (args : Array Operand) (ps : List (Nat × SF)) (avs : Value → List PV) : Prop := ∀ (a : Act) w y, Hps ps (Act.tau a) w y → ∃ vs : List Value, args.map a.eval = vs.toArray ∧ PVt (avs (Act.tau a j)) vs w y
theorem ArgsF.one {j : Nat} {x : Operand} {ps : List (Nat × SF)} {p : Value → PV} (h : OpdF j x ps p) : ArgsF j #[x] ps (fun v => [p v]) := fun a w y hp => ⟨[a.eval x], by simp, h a w y hp, trivial⟩
theorem ArgsF.two {j : Nat} {x1 x2 : Operand} {ps1 ps2 : List (Nat × SF)} {p1 p2 : Value → PV} (h1 : OpdF j x1 ps1 p1) (h2 : OpdF j x2 ps2 p2) : ArgsF j #[x1, x2] (ps1 ++ ps2) (fun v => [p1 v, p2 v]) :=
  fun a w y hp => ⟨[a.eval x1, a.eval x2], by simp, h1 a w y hp.left, h2 a w y hp.right, trivial⟩
theorem ArgsF.three {j : Nat} {x1 x2 x3 : Operand} {ps1 ps2 ps3 : List (Nat × SF)} {p1 p2 p3 : Value → PV} (h1 : OpdF j x1 ps1 p1) (h2 : OpdF j x2 ps2 p2) (h3 : OpdF j x3 ps3 p3) : ArgsF j #[x1, x2, x3] (ps1 ++ (ps2 ++ ps3)) (fun v => [p1 v, p2 v, p3 v]) :=
  fun a w y hp => ⟨[a.eval x1, a.eval x2, a.eval x3], by simp, h1 a w y hp.left, h2 a w y hp.right.left, h3 a w y hp.right.right, trivial⟩
/-- A contract for a handle of whatever name. -/
def HP.named {β : Type} (g : β → Value) (h : β → HP) (v : Value) : HP := HP.ex fun b => HP.and (v = g b) (h b)
theorem HP.named_mk {β : Type} {g : β → Value} {h : β → HP} (b : β) {w f y} (k : (h b).p w f y) : (HP.named g h (g b)).p w f y := ⟨b, rfl, k⟩
theorem FnG.named2 {β : Type} {g : β → Value} {P : Program} {f : FuncId} {avs : Value → List PV} {h1 k1 : HP} {h2 k2 : β → HP} {q : Value → PV} (hc : ∀ b, FnG P f 2 (avs (g b)) [h1, h2 b] (q (g b)) (fun _ => [k1, k2 b])) (v : Value) :
    FnG P f 2 (avs v) [h1, HP.named g h2 v] (q v) (fun _ => [k1, HP.named g k2 v]) := fun w F vs hw hle hvs hpr => by
  obtain ⟨b, rfl, hb⟩ := hpr 1 _ rfl
  refine (hc b w F vs hw hle hvs fun i h hi => ?_).mono ?_
  · match i, hi with
    | 0, hi => exact hpr 0 _ hi
    | 1, hi => simp at hi; subst hi; exact hb
  · rintro e' w' ⟨v, F', h1, h2, h3, h4, h5, h6⟩
    refine ⟨v, F', h1, h2, h3, h4, h5, fun i h hi => ?_⟩
    match i, hi with
    | 0, hi => exact h6 0 _ hi
    | 1, hi => simp at hi; subst hi; exact ⟨b, rfl, h6 1 _ rfl⟩
theorem FnG.named1 {β : Type} {g : β → Value} {P : Program} {f : FuncId} {avs : Value → List PV} {h2 k2 : β → HP} {q : Value → PV} (hc : ∀ b, FnG P f 1 (avs (g b)) [h2 b] (q (g b)) (fun _ => [k2 b])) (v : Value) :
    FnG P f 1 (avs v) [HP.named g h2 v] (q v) (fun _ => [HP.named g k2 v]) := fun w F vs hw hle hvs hpr => by
  obtain ⟨b, rfl, hb⟩ := hpr 0 _ rfl
  refine (hc b w F vs hw hle hvs fun i h hi => ?_).mono ?_
  · match i, hi with
    | 0, hi => simp at hi; subst hi; exact hb
  · rintro e' w' ⟨v, F', h1, h2, h3, h4, h5, h6⟩
    refine ⟨v, F', h1, h2, h3, h4, h5, fun i h hi => ?_⟩
    match i, hi with
    | 0, hi => simp at hi; subst hi; exact ⟨b, rfl, h6 0 _ rfl⟩
/-- A new object, told as one of whatever name. -/
theorem FnG.newNamed {β : Type} {g : β → Value} {P : Program} {f : FuncId} {avs : List PV} {h0 : HP} {h : Value → HP} {h2 : β → HP} {q : PV} (hc : FnG P f 1 avs [h0] q (fun v => [h v])) (hp : ∀ v w f y, (h v).p w f y → ∃ b, v = g b ∧ (h2 b).p w f y) :
    FnG P f 1 avs [h0] q (fun v => [HP.named g h2 v]) := fun w F vs hw hle hvs hpr => by
  refine (hc w F vs hw hle hvs hpr).mono ?_
  rintro e' w' ⟨v, F', h1, h2, h3, h4, h5, h6⟩
  refine ⟨v, F', h1, h2, h3, h4, h5, fun i h hi => ?_⟩
  match i, hi with
  | 0, hi =>
    simp at hi; subst hi
    obtain ⟨b, e, k⟩ := hp _ _ _ _ (h6 0 _ rfl)
    exact ⟨b, e, k⟩
section
variable {P : Program} {d : Option Nat} {ty : TypeId} {pos : String} {af : Array Edge} {g : Option (Nat × Bool)}
/-- Two objects, the second one's handle is what slot j holds. -/
theorem o_callF2 {f : FuncId} {args : Array Operand} {tys : Array TypeId} {d' : Nat} {ps : List (Nat × SF)} {avs : Value → List PV} {h1 k1 : HP} {h2 k2 : Value → HP} {q : Value → PV} {fn : Func} (j n1 n2 : Nat)
    (hc : ∀ v, FnG P f 2 (avs v) [h1, h2 v] (q v) (fun _ => [k1, k2 v])) (hf : P.funcs[f]? = some fn) (hb : fn.body.isSome = true) (hn : (fn.name == "runtime.NumGoroutine") = false) (hne : Nat.beq n1 n2 = false) (hj : Nat.beq j d' = false)
    (ha : ArgsF j args ps avs) :
    OpC P ⟨some d', .call { callee := .value (.func f), args := args, argTypes := tys }, ty, pos, af, g⟩ ⟨ps, [(n1, RS.hp h1), (n2, .ob (.slot j) h2)], .fn j q, [(n1, RS.hp k1), (n2, .ob (.slot j) k2)]⟩ := fun a w F K Q hw hp hr ht => by
  have hjd : ∀ v, upd (Act.tau a) (some d') v j = Act.tau a j := fun v => by
    have : d' ≠ j := fun e => by subst e; simp at hj
    simp [upd, this]
  have hx := o_callG (P := P) (ty := ty) (pos := pos) (af := af) (g := g) (tys := tys) (d' := d') (ps := (j, .pv (PV.nm (Act.tau a j))) :: ps) (is := [n1, n2]) (prs := [(n1, RS.hp h1), (n2, RS.hp (h2 (Act.tau a j)))]) (s := .pv (q (Act.tau a j))) (qrs := [(n1, RS.hp k1), (n2, RS.hp (k2 (Act.tau a j)))]) (hc (Act.tau a j)) hf hb hn
    (args := args) (fun a' w y hp' => by
      have e : Act.tau a' j = Act.tau a j := hp' (j, .pv (PV.nm (Act.tau a j))) (by simp)
      obtain ⟨vs, h1, h2⟩ := ha a' w y (fun x hx => hp' x (by simp [hx]))
      exact ⟨vs, h1, by rw [← e]; exact h2⟩) rfl (by have : n1 ≠ n2 := fun e => by subst e; simp at hne
                                                     simp [this]) (fun τ w F hr i x hi => by
      match i, hi with
      | 0, hi => simp at hi; subst hi; exact ⟨n1, rfl, hr (n1, RS.hp h1) (by simp)⟩
      | 1, hi => simp at hi; subst hi; exact ⟨n2, rfl, hr (n2, RS.hp (h2 (Act.tau a j))) (by simp)⟩)
    (fun _ _ _ _ h => h) (fun x hx => by
      simp only [List.mem_cons, List.not_mem_nil, or_false] at hx
      rcases hx with rfl | rfl
      · exact ⟨0, rfl, fun v τ w f y ⟨k, hk, hp⟩ => by simp at hk; subst hk; exact hp⟩
      · exact ⟨1, rfl, fun v τ w f y ⟨k, hk, hp⟩ => by simp at hk; subst hk; exact hp⟩) rfl (fun _ => rfl)
  refine hx a w F K Q hw (fun x hx => ?_) (fun x hx => ?_) ?_
  · rcases List.mem_cons.1 hx with rfl | hx
    · rfl
    · exact hp x hx
  · simp only [List.mem_cons, List.not_mem_nil, or_false] at hx
    rcases hx with rfl | rfl
    · exact hr (n1, RS.hp h1) (by simp)
    · exact hr (n2, .ob (.slot j) h2) (by simp)
  · intro v w' F' hwf hst hq hqr
    refine ht v w' F' hwf hst ?_ (fun x hx => ?_)
    · show (q (upd (Act.tau a) (some d') v j)).p v w' (U F')
      rw [hjd]; exact hq
    · simp only [List.mem_cons, List.not_mem_nil, or_false] at hx
      rcases hx with rfl | rfl
      · exact hqr (n1, RS.hp k1) (by simp)
      · show (k2 (upd (Act.tau a) (some d') v j)).p w' (F' n2) (U F')
        rw [hjd]; exact hqr (n2, RS.hp (k2 (Act.tau a j))) (by simp)
/-- One object, its handle is what slot j holds. -/
theorem o_callF1 {f : FuncId} {args : Array Operand} {tys : Array TypeId} {d' : Nat} {ps : List (Nat × SF)} {avs : Value → List PV} {h2 k2 : Value → HP} {q : Value → PV} {fn : Func} (j n2 : Nat)
    (hc : ∀ v, FnG P f 1 (avs v) [h2 v] (q v) (fun _ => [k2 v])) (hf : P.funcs[f]? = some fn) (hb : fn.body.isSome = true) (hn : (fn.name == "runtime.NumGoroutine") = false) (hj : Nat.beq j d' = false)
    (ha : ArgsF j args ps avs) :
    OpC P ⟨some d', .call { callee := .value (.func f), args := args, argTypes := tys }, ty, pos, af, g⟩ ⟨ps, [(n2, .ob (.slot j) h2)], .fn j q, [(n2, .ob (.slot j) k2)]⟩ := fun a w F K Q hw hp hr ht => by
  have hjd : ∀ v, upd (Act.tau a) (some d') v j = Act.tau a j := fun v => by
    have : d' ≠ j := fun e => by subst e; simp at hj
    simp [upd, this]
  have hx := o_callG (P := P) (ty := ty) (pos := pos) (af := af) (g := g) (tys := tys) (d' := d') (ps := (j, .pv (PV.nm (Act.tau a j))) :: ps) (is := [n2]) (prs := [(n2, RS.hp (h2 (Act.tau a j)))]) (s := .pv (q (Act.tau a j))) (qrs := [(n2, RS.hp (k2 (Act.tau a j)))]) (hc (Act.tau a j)) hf hb hn
    (args := args) (fun a' w y hp' => by
      have e : Act.tau a' j = Act.tau a j := hp' (j, .pv (PV.nm (Act.tau a j))) (by simp)
      obtain ⟨vs, h1, h2⟩ := ha a' w y (fun x hx => hp' x (by simp [hx]))
      exact ⟨vs, h1, by rw [← e]; exact h2⟩) rfl (by simp) (fun τ w F hr i x hi => by
      match i, hi with
      | 0, hi => simp at hi; subst hi; exact ⟨n2, rfl, hr (n2, RS.hp (h2 (Act.tau a j))) (by simp)⟩)
    (fun _ _ _ _ h => h) (fun x hx => by
      simp only [List.mem_cons, List.not_mem_nil, or_false] at hx
      subst hx
      exact ⟨0, rfl, fun v τ w f y ⟨k, hk, hp⟩ => by simp at hk; subst hk; exact hp⟩) rfl (fun _ => rfl)
  refine hx a w F K Q hw (fun x hx => ?_) (fun x hx => ?_) ?_
  · rcases List.mem_cons.1 hx with rfl | hx
    · rfl
    · exact hp x hx
  · simp only [List.mem_cons, List.not_mem_nil, or_false] at hx
    subst hx
    exact hr (n2, .ob (.slot j) h2) (by simp)
  · intro v w' F' hwf hst hq hqr
    refine ht v w' F' hwf hst ?_ (fun x hx => ?_)
    · show (q (upd (Act.tau a) (some d') v j)).p v w' (U F')
      rw [hjd]; exact hq
    · simp only [List.mem_cons, List.not_mem_nil, or_false] at hx
      subst hx
      show (k2 (upd (Act.tau a) (some d') v j)).p w' (F' n2) (U F')
      rw [hjd]; exact hqr (n2, RS.hp (k2 (Act.tau a j))) (by simp)
/-- A fact that names the value itself. -/
def PV.self (q : Value → PV) : PV := ⟨fun v w y => (q v).p v w y, fun {v _ _ _ _} h k => (q v).mono h k⟩
/-- Two objects; the result is told by itself, the second object by the result. -/
theorem o_callFS {f : FuncId} {args : Array Operand} {tys : Array TypeId} {d' : Nat} {ps : List (Nat × SF)} {avs : List PV} {h1 h2 k1 : HP} {k2 : Value → HP} {q : Value → PV} {fn : Func} (n1 n2 : Nat)
    (hc : FnG P f 2 avs [h1, h2] (PV.self q) (fun v => [k1, k2 v])) (hf : P.funcs[f]? = some fn) (hb : fn.body.isSome = true) (hn : (fn.name == "runtime.NumGoroutine") = false) (hne : Nat.beq n1 n2 = false)
    (ha : ∀ (a : Act) w y, Hps ps (Act.tau a) w y → ∃ vs : List Value, args.map a.eval = vs.toArray ∧ PVt avs vs w y) :
    OpC P ⟨some d', .call { callee := .value (.func f), args := args, argTypes := tys }, ty, pos, af, g⟩ ⟨ps, [(n1, RS.hp h1), (n2, RS.hp h2)], .fn d' q, [(n1, RS.hp k1), (n2, .ob (.slot d') k2)]⟩ :=
  o_callG (is := [n1, n2]) hc hf hb hn ha rfl (by have : n1 ≠ n2 := fun e => by subst e; simp at hne
                                                  simp [this]) (fun τ w F hr i x hi => by
      match i, hi with
      | 0, hi => simp at hi; subst hi; exact ⟨n1, rfl, hr (n1, RS.hp h1) (by simp)⟩
      | 1, hi => simp at hi; subst hi; exact ⟨n2, rfl, hr (n2, RS.hp h2) (by simp)⟩)
    (fun τ w y v h => by
      show (q (upd τ (some d') v d')).p v w y
      have : upd τ (some d') v d' = v := by simp [upd]
      rw [this]; exact h) (fun x hx => by
      simp only [List.mem_cons, List.not_mem_nil, or_false] at hx
      rcases hx with rfl | rfl
      · exact ⟨0, rfl, fun v τ w f y ⟨k, hk, hp⟩ => by simp at hk; subst hk; exact hp⟩
      · exact ⟨1, rfl, fun v τ w f y ⟨k, hk, hp⟩ => by simp at hk; subst hk; simpa [RS.holds, Anc.v, upd] using hp⟩) rfl (fun _ => rfl)
/-- The first cell of a tuple's first part. -/
def hdA : Value → Value
  | .agg cs => cs.toList.headD undef
  | _ => undef
def hdT : Value → Value
  | .tuple vs => hdA (vs.toList.headD undef)
  | _ => undef
/-- Two objects at a return: the second one is known by the first cell of the first result. -/
theorem ret_G2h {B : Base} {F0 : Fp} (hG : BaseG B F0 2) {E : En} {a : Act} {w : World} {F : Fp} {fn : Func} {β : Type} {g : β → Value} {b0 : β} {l : Value → List PV} {p2 : PV} {k1 : HP} {k2 : β → HP} {ss : List SF} (hS : Sat B E a w F) (h0 : look E.r 0 = some (frame B))
    (hr : ROk P E fn.results.toList ss) (hq : Tells ss (.tup [.agg (.is (g b0) :: l (g b0)), p2])) (h1 : look E.r 1 = some (RS.hp k1)) (h2 : look E.r 2 = some (RS.hp (k2 b0))) :
    bodyPost P fn (RG B F0 2 (PV.self fun v => .tup [.agg (.is (hdT v) :: l (hdT v)), p2]) (fun v => [k1, HP.named g k2 (hdT v)])) .ret a w := by
  have key : ∀ {v w y}, (PV.tup [.agg (.is (g b0) :: l (g b0)), p2]).p v w y → hdT v = g b0 := by
    rintro v w y ⟨vs, rfl, h⟩
    match vs, h with
    | u :: us, h =>
      obtain ⟨cs, rfl, hc⟩ := h.1
      match cs, hc with
      | c :: cs, hc =>
        have e : c = g b0 := hc.1.2.1
        simp [hdT, hdA, e]
  refine ret_G hG hS h0 hr (q := PV.self _) (fun τ w y vs hv => ?_) fun v τ y hv i h hi => ?_
  · have hp := hq τ w y vs hv
    have e := key hp
    show (PV.tup [.agg (.is (hdT (valOf vs)) :: l (hdT (valOf vs))), p2]).p (valOf vs) w y
    rw [e]; exact hp
  · obtain ⟨vs, rfl, hvs⟩ := hv
    have e := key (hq _ _ _ _ hvs)
    match i, hi with
    | 0, hi => simp at hi; subst hi; exact ⟨_, h1, by omega, fun _ _ _ h => h⟩
    | 1, hi => simp at hi; subst hi; exact ⟨_, h2, by omega, fun τ w f h => by rw [e]; exact ⟨b0, rfl, h⟩⟩
/-- Two objects, whatever is told. -/
theorem o_callG2c {f : FuncId} {args : Array Operand} {tys : Array TypeId} {d' : Nat} {ps : List (Nat × SF)} {avs : List PV} {h1 h2 k1 k2 : HP} {q : PV} {fn : Func} (n1 n2 : Nat)
    (hc : FnG P f 2 avs [h1, h2] q (fun _ => [k1, k2])) (hf : P.funcs[f]? = some fn) (hb : fn.body.isSome = true) (hn : (fn.name == "runtime.NumGoroutine") = false) (hne : Nat.beq n1 n2 = false)
    (ha : ∀ (a : Act) w y, Hps ps (Act.tau a) w y → ∃ vs : List Value, args.map a.eval = vs.toArray ∧ PVt avs vs w y) :
    OpC P ⟨some d', .call { callee := .value (.func f), args := args, argTypes := tys }, ty, pos, af, g⟩ ⟨ps, [(n1, RS.hp h1), (n2, RS.hp h2)], .pv q, [(n1, RS.hp k1), (n2, RS.hp k2)]⟩ :=
  o_callG (is := [n1, n2]) hc hf hb hn ha rfl (by have : n1 ≠ n2 := fun e => by subst e; simp at hne
                                                  simp [this]) (fun τ w F hr i x hi => by
      match i, hi with
      | 0, hi => simp at hi; subst hi; exact ⟨n1, rfl, hr (n1, RS.hp h1) (by simp)⟩
      | 1, hi => simp at hi; subst hi; exact ⟨n2, rfl, hr (n2, RS.hp h2) (by simp)⟩)
    (fun _ _ _ _ h => h) (fun x hx => by
      simp only [List.mem_cons, List.not_mem_nil, or_false] at hx
      rcases hx with rfl | rfl
      · exact ⟨0, rfl, fun v τ w f y ⟨k, hk, hp⟩ => by simp at hk; subst hk; exact hp⟩
      · exact ⟨1, rfl, fun v τ w f y ⟨k, hk, hp⟩ => by simp at hk; subst hk; exact hp⟩) rfl (fun _ => rfl)
/-- Cells that hang on what slot j holds. -/
inductive CFn (j : Nat) : List CF → (Value → List PV) → Prop
  | nil : CFn j [] (fun _ => [])
  | same {cs : List CF} {l : Value → List PV} (h : CFn j cs l) : CFn j (.same j :: cs) (fun v => .is v :: l v)
  | fn {cs : List CF} {l : Value → List PV} {p : Value → PV} (h : CFn j cs l) : CFn j (.fn j p :: cs) (fun v => p v :: l v)
  | pv {cs : List CF} {l : Value → List PV} {p : PV} (h : CFn j cs l) : CFn j (.pv p :: cs) (fun v => p :: l v)
theorem CFn.holds {j : Nat} {τ : Tau} {w : World} {y : Ys} {cs : List CF} {l : Value → List PV} (h : CFn j cs l) : ∀ {vs : List Value}, PVs (l (τ j)) vs w y → CFs τ w y cs vs := by
  induction h with
  | nil => intro vs h; cases vs with
    | nil => trivial
    | cons => exact h.elim
  | same h ih => intro vs h; cases vs with
    | nil => exact h.elim
    | cons v vs => exact ⟨⟨h.1.1, h.1.2.1, h.1.1⟩, ih h.2⟩
  | fn h ih => intro vs h; cases vs with
    | nil => exact h.elim
    | cons v vs => exact ⟨h.1, ih h.2⟩
  | pv h ih => intro vs h; cases vs with
    | nil => exact h.elim
    | cons v vs => exact ⟨h.1, ih h.2⟩
theorem Ent.fnAgg {j : Nat} {cs : List CF} {l : Value → List PV} (h : CFn j cs l) : Ent (.fn j (fun v => .agg (l v))) (.agg cs) := fun τ w y v ⟨vs, e, k⟩ => ⟨vs, e, h.holds k⟩
/-- A tuple's part that hangs on what slot j holds. -/
theorem o_extractF {j m : Nat} {l : Value → List PV} {i : Nat} {p : Value → PV} (hi : ∀ v, (l v)[i]? = some (p v)) (hd : depOk d (.fn j p) = true) : OpC P ⟨d, .extract (.tmp m) i, ty, pos, af, g⟩ ⟨[(m, .fn j (fun v => .tup (l v)))], [], .fn j p, []⟩ :=
  OpC.pure fun a w yy hp => by
    obtain ⟨vs, e, h⟩ := hp (m, .fn j (fun v => .tup (l v))) (by simp)
    obtain ⟨v, h1, h2⟩ := PVt.get h (hi _)
    refine ⟨v, ?_, fun τ' ht => depOk_mono hd ht h2⟩
    simp [execOp, Instr.extract, Act.eval_tmp, e, h1]
/-- .. that does not. -/
theorem o_extractFc {j m : Nat} {l : Value → List PV} {i : Nat} {p : PV} (hi : ∀ v, (l v)[i]? = some p) : OpC P ⟨d, .extract (.tmp m) i, ty, pos, af, g⟩ ⟨[(m, .fn j (fun v => .tup (l v)))], [], .pv p, []⟩ :=
  OpC.pure fun a w yy hp => by
    obtain ⟨vs, e, h⟩ := hp (m, .fn j (fun v => .tup (l v))) (by simp)
    obtain ⟨v, h1, h2⟩ := PVt.get h (hi _)
    exact ⟨v, by simp [execOp, Instr.extract, Act.eval_tmp, e, h1], fun τ' ht => h2⟩
end
end Go.Gm

namespace Go.Gm
set_option linter.unusedVariables false
set_option linter.unusedSimpArgs false
theorem stars_perm {w : World} {y : Ys} {rs rs' : List RS} (hp : rs.Perm rs') : ∀ {f : Ys}, stars w y rs f → stars w y rs' f := by
  induction hp with
  | nil => intro f h; exact h
  | cons r _ ih =>
    rintro f ⟨f1, f2, h1, h2, h3, h4, h5⟩
    exact ⟨f1, f2, h1, h2, h3, h4, ih h5⟩
  | swap r1 r2 l =>
    rintro f ⟨f1, f2, h1, h2, h3, h4, f3, f4, k1, k2, k3, k4, k5⟩
    refine ⟨f3, fun b => f1 b ∨ f4 b, fun b => ?_, fun b hb hc => ?_, k3, k4, f1, f4, fun b => Iff.rfl, fun b hb hc => ?_, h3, h4, k5⟩
    · rw [h1, k1]
      constructor
      · rintro (h | h | h)
        · exact .inr (.inl h)
        · exact .inl h
        · exact .inr (.inr h)
      · rintro (h | h | h)
        · exact .inr (.inl h)
        · exact .inl h
        · exact .inr (.inr h)
    · rcases hc with hc | hc
      · exact h2 b hc ((k1 b).2 (.inl hb))
      · exact k2 b hb hc
    · exact h2 b hb ((k1 b).2 (.inr hc))
  | trans _ _ ih1 ih2 => intro f h; exact ih2 (ih1 h)
theorem erase_perm {α : Type} : ∀ {L : List α} {j : Nat} {x : α}, L[j]? = some x → L.Perm (x :: L.eraseIdx j)
  | [], j, x, h => by simp at h
  | y :: L, 0, x, h => by simp at h; subst h; exact List.Perm.refl _
  | y :: L, j + 1, x, h => by
    have := erase_perm (L := L) (j := j) (x := x) (by simpa using h)
    exact (this.cons y).trans (List.Perm.swap x y _)
section
variable {B : Base} {E : En} {a : Act} {w : World} {F : Fp} {α : Type} {g : α → HP}
abbrev famS (g : α → HP) (L : List α) : RS := RS.hp (HP.star (L.map fun x => RS.hp (g x)))
theorem Sat.takeAt (g : α → HP) {L : List α} {x : α} (h : Sat B E a w F) (n i j : Nat) (hl : look E.r n = some (famS g L)) (hi : look E.r i = none) (hj : L[j]? = some x) :
    ∃ F', Sat B ⟨E.s, (i, RS.hp (g x)) :: (n, famS g (L.eraseIdx j)) :: E.r⟩ a w F' := by
  have h1 := h.turn n hl (r' := RS.hp (HP.star (RS.hp (g x) :: (L.eraseIdx j).map fun x => RS.hp (g x)))) (fun _ _ _ _ k => stars_perm ((erase_perm hj).map fun x => RS.hp (g x)) k)
  have hni : n ≠ i := fun e => by subst e; rw [hl] at hi; cases hi
  obtain ⟨F', h2⟩ := h1.peel n i (by rw [look_cons, if_pos rfl]) (by rw [look_cons, if_neg hni]; exact hi)
  refine ⟨F', h2.congr (fun _ => rfl) (fun k => ?_)⟩
  simp only [look_cons]
  split
  · rfl
  · split
    · rfl
    · rfl
theorem Sat.putAt (g : α → HP) {L : List α} {x : α} (h : Sat B E a w F) (n i j : Nat) (hj : j < L.length) (hl : look E.r n = some (famS g (L.eraseIdx j))) (hi : look E.r i = some (RS.hp (g x))) (hne : Nat.beq n i = false) :
    ∃ F', Sat B ⟨E.s, (n, famS g (L.set j x)) :: (i, RS.hp (HP.star [])) :: E.r⟩ a w F' := by
  obtain ⟨F', h1⟩ := h.push n i hl hi hne rfl
  have hp : (RS.hp (g x) :: (L.eraseIdx j).map fun x => RS.hp (g x)).Perm ((L.set j x).map fun x => RS.hp (g x)) := by
    have := (erase_perm (L := L.set j x) (j := j) (x := x) (by simp [hj])).symm.map fun x => RS.hp (g x)
    rwa [List.eraseIdx_set_eq] at this
  have h2 := h1.turn n (r := RS.hp (HP.star (RS.hp (g x) :: (L.eraseIdx j).map fun x => RS.hp (g x)))) (by rw [look_cons, if_pos rfl]) (r' := famS g (L.set j x)) (fun _ _ _ _ k => stars_perm hp k)
  refine ⟨F', h2.congr (fun _ => rfl) (fun k => ?_)⟩
  simp only [look_cons]
  split
  · rfl
  · split
    · rfl
    · rfl
/-- .. the same one. -/
theorem Sat.putBack (g : α → HP) {L : List α} {x : α} (h : Sat B E a w F) (n i j : Nat) (hj : L[j]? = some x) (hl : look E.r n = some (famS g (L.eraseIdx j))) (hi : look E.r i = some (RS.hp (g x))) (hne : Nat.beq n i = false) :
    ∃ F', Sat B ⟨E.s, (n, famS g L) :: (i, RS.hp (HP.star [])) :: E.r⟩ a w F' := by
  have hlt := (List.getElem?_eq_some_iff.1 hj).1
  have := h.putAt g n i j hlt hl hi hne
  have e : L.set j x = L := by
    have := (List.getElem?_eq_some_iff.1 hj).2
    rw [← this]; exact List.set_getElem_self hlt
  rwa [e] at this
theorem eraseIdx_last {L : List α} {x : α} : (L ++ [x]).eraseIdx L.length = L := by
  rw [List.eraseIdx_append_of_length_le (Nat.le_refl _)]
  simp
theorem HP.named_open {β : Type} {g : β → Value} {h : β → HP} (hg : ∀ b b', g b = g b' → b = b') {b : β} {v : Value} (e : v = g b) {w : World} {f y : Ys} (k : (HP.named g h v).p w f y) : (h b).p w f y := by
  obtain ⟨b', e', k⟩ := k
  have := hg b b' (e ▸ e')
  subst this; exact k
end
end Go.Gm

namespace Go.Gm
set_option linter.unusedVariables false
set_option linter.unusedSimpArgs false
theorem Args.seven {x1 x2 x3 x4 x5 x6 x7 : Operand} {ps1 ps2 ps3 ps4 ps5 ps6 ps7 : List (Nat × SF)} {p1 p2 p3 p4 p5 p6 p7 : PV} (h1 : Opd x1 ps1 (.pv p1)) (h2 : Opd x2 ps2 (.pv p2)) (h3 : Opd x3 ps3 (.pv p3)) (h4 : Opd x4 ps4 (.pv p4)) (h5 : Opd x5 ps5 (.pv p5)) (h6 : Opd x6 ps6 (.pv p6)) (h7 : Opd x7 ps7 (.pv p7)) :
    ∀ (a : Act) w y, Hps (ps1 ++ (ps2 ++ (ps3 ++ (ps4 ++ (ps5 ++ (ps6 ++ ps7)))))) (Act.tau a) w y → ∃ vs : List Value, (#[x1, x2, x3, x4, x5, x6, x7] : Array Operand).map a.eval = vs.toArray ∧ PVt [p1, p2, p3, p4, p5, p6, p7] vs w y :=
  fun a w y hp => ⟨[a.eval x1, a.eval x2, a.eval x3, a.eval x4, a.eval x5, a.eval x6, a.eval x7], by simp, h1 a w y hp.left, h2 a w y hp.right.left, h3 a w y hp.right.right.left, h4 a w y hp.right.right.right.left, h5 a w y hp.right.right.right.right.left, h6 a w y hp.right.right.right.right.right.left, h7 a w y hp.right.right.right.right.right.right, trivial⟩
theorem PVt.append {w y} : ∀ {ps qs : List PV} {us vs : List Value}, PVt ps us w y → PVt qs vs w y → PVt (ps ++ qs) (us ++ vs) w y
  | [], _, [], _, _, k => k
  | p :: ps, _, v :: us, _, hh, k => ⟨hh.1, PVt.append hh.2 k⟩
  | [], _, _ :: _, _, hh, _ => hh.elim
  | _ :: _, _, [], _, hh, _ => hh.elim
/-- A function value. -/
def PV.clos (f : FuncId) (cps : List PV) : PV := ⟨fun u w y => ∃ caps : List Value, u = .func (.func f) #[] caps.toArray ∧ PVt cps caps w y, fun h ⟨caps, e, k⟩ => ⟨caps, e, PVt.mono h k⟩⟩
theorem one_clos {f : FuncId} {cps : List PV} : ∀ v w yy, (PV.clos f cps).p v w yy → v.oneCell' = true := fun v _ _ ⟨_, e, _⟩ => by rw [e]; rfl
section
variable {P : Program} {d : Option Nat} {ty : TypeId} {pos : String} {af : Array Edge} {g : Option (Nat × Bool)}
theorem o_makeFunc {f : FuncId} {caps : Array Operand} {ps : List (Nat × SF)} {cps : List PV}
    (ha : ∀ (a : Act) w y, Hps ps (Act.tau a) w y → ∃ vs : List Value, caps.map a.eval = vs.toArray ∧ PVt cps vs w y) :
    OpC P ⟨d, .makeFunc (.func f) #[] caps, ty, pos, af, g⟩ ⟨ps, [], .pv (.clos f cps), []⟩ :=
  OpC.pure fun a w yy hp => by
    obtain ⟨vs, e, h⟩ := ha a w yy hp
    exact ⟨.func (.func f) #[] vs.toArray, by simp [execOp, Instr.makeFunc, e], fun _ _ => ⟨vs, rfl, h⟩⟩
theorem o_box1 {d' : Nat} {x : Operand} {ps : List (Nat × SF)} {t : TypeId} {p : PV} (n : Nat) (hx : Opd x ps (.pv p)) (h1 : ∀ v w yy, p.p v w yy → v.oneCell' = true) :
    OpC P ⟨some d', .box t x, ty, pos, af, g⟩ ⟨ps, [], .same d', [(n, .pt (.slot d') t [.pv p])]⟩ :=
  o_new n rfl (fun a w y hp => by
    have h := hx a w y hp
    have h1' := h1 _ _ _ h
    refine ⟨[a.eval x], ⟨⟨h1', h⟩, trivial⟩, ?_⟩
    cases e : a.eval x <;> rw [e] at h1' <;> first | (simp [execOp, Instr.box, e, newVar, newRow, Value.cells]; done) | simp [Value.oneCell'] at h1') rfl
/-- A call of a function value that changes one object. -/
theorem o_callClos {f : FuncId} {x : Operand} {args : Array Operand} {tys : Array TypeId} {d' : Nat} {qs ps : List (Nat × SF)} {avs cps : List PV} {h h' : HP} {q : PV} {fn : Func} (n : Nat) (hx : Opd x qs (.pv (.clos f cps)))
    (hc : FnG P f 1 (avs ++ cps) [h] q (fun _ => [h'])) (hf : P.funcs[f]? = some fn) (hb : fn.body.isSome = true) (hn : (fn.name == "runtime.NumGoroutine") = false)
    (ha : ∀ (a : Act) w y, Hps ps (Act.tau a) w y → ∃ vs : List Value, args.map a.eval = vs.toArray ∧ PVt avs vs w y) :
    OpC P ⟨some d', .call { callee := .value x, args := args, argTypes := tys }, ty, pos, af, g⟩ ⟨qs ++ ps, [(n, RS.hp h)], .pv q, [(n, RS.hp h')]⟩ :=
  o_callGen (is := [n]) (avs := avs ++ cps) hc (fun a w y hp => by
      obtain ⟨vs, e, hvs⟩ := ha a w y hp.right
      obtain ⟨caps, e2, hcs⟩ := hx a w y hp.left
      have hbn : fn.body ≠ none := by intro h; rw [h] at hb; cases hb
      have hn' : fn.name ≠ "runtime.NumGoroutine" := by intro h; rw [h] at hn; simp at hn
      exact ⟨vs ++ caps, by simp [execOp, resolve, e, e2, Deferred.ofValue, invoke, callFunc, hf, hn', hbn], hvs.append hcs⟩) rfl (by simp) (fun τ w F hr i x hi => by
      match i, hi with
      | 0, hi => simp at hi; subst hi; exact ⟨n, rfl, hr (n, RS.hp h) (by simp)⟩)
    (fun _ _ _ _ h => h) (fun x hx => by
      simp only [List.mem_singleton] at hx
      subst hx
      exact ⟨0, rfl, fun v τ w f y ⟨k, hk, hp⟩ => by simp at hk; subst hk; exact hp⟩) rfl (fun _ => rfl)
end
end Go.Gm

namespace Go.Gm
set_option linter.unusedVariables false
set_option linter.unusedSimpArgs false
def PV.one : PV := ⟨fun u _ _ => u.oneCell' = true, fun _ h => h⟩
theorem pvOne1 : ∀ v w yy, PV.one.p v w yy → v.oneCell' = true := fun _ _ _ h => h
theorem Ent.one {v : Value} : Ent (.pv (.is v)) (.pv PV.one) := fun _ _ _ _ h => h.2
theorem row_lend {α : Type} {T sz : Nat} {R : α → List PV} {l : List α} {v : Value} : Lend (rowH T sz R l v) v (PV.sl R l) := fun w f y y' h hle hf hlt => by
  obtain ⟨xs, r1, r2, r3⟩ := h
  obtain ⟨ad, cap, e8, h8, h9, h10⟩ := row_shape r1
  refine ⟨ad, cap, e8, h8, h9, ?_⟩
  rcases h10 with h10 | ⟨b', rfl, h11, h12⟩
  · exact .inl (List.eq_nil_of_length_eq_zero h10)
  · have hb : f b' := (r3 b').2 (by rw [e8]; rfl)
    exact .inr ⟨b', 0, xs, rfl, hf b' hb, hlt b' hb, h12, PVs.mono (Ev.less w hle) r2⟩
theorem OpC.head {P : Program} {o : Oper} {ps : List (Nat × SF)} {q : SF} {n : Nat} {r r' : RS} {pr qr : List (Nat × RS)} (h : OpC P o ⟨ps, (n, r) :: pr, q, qr⟩) (hr : ∀ τ w fb y, r'.holds τ w fb y → r.holds τ w fb y) : OpC P o ⟨ps, (n, r') :: pr, q, qr⟩ := fun a w F K Q hw hs hp ht =>
  h a w F K Q hw hs (fun x hx => by
    rcases List.mem_cons.1 hx with rfl | hx
    · exact hr _ _ _ _ (hp (n, r') (by simp))
    · exact hp x (by simp [hx])) ht
theorem OpC.lendRow {P : Program} {o : Oper} {ps : List (Nat × SF)} {pr qr : List (Nat × RS)} {q : SF} {α : Type} {T sz : Nat} {R : α → List PV} {l : List α} (n : Nat) (is : List Nat) {v : Value} (hc : OpC P o ⟨ps, pr, q, qr⟩) (hk : LentOk is (PV.sl R l) ps) (hq : Free q) (hqr : Frees (rowH T sz R l v) qr) (hni : notIn n ⟨ps, pr, q, qr⟩ = true) :
    OpC P o ⟨lendPs is v ps, (n, .ob (.val v) (rowH T sz R l)) :: pr, q, qr⟩ :=
  (OpC.lend n is row_lend hc hk hq hqr hni).head fun _ _ _ _ h => h
section
variable {P : Program} {d : Option Nat} {ty : TypeId} {pos : String} {af : Array Edge} {g : Option (Nat × Bool)}
/-- A part of a row of one-cell elements. -/
def subLH (i j : Nat) : Value → Value
  | .slice (some a) _ c => .slice (some ⟨a.block, if c - i = 0 then a.off else a.off + i, none⟩) (j - i) (c - i)
  | v => v
theorem o_sub_lh {α : Type} {R : α → List PV} {l : List α} {t e : TypeId} {x y z : Operand} {ps qs rs : List (Nat × SF)} {k k' : IntKind} {i j : Int} {v : Value} (n : Nat) (he : elemOk P t e 1) (hx : IsAnc x ps (.val v)) (hy : Opd y qs (.pv (.int k i))) (hz : Opd z rs (.pv (.int k' j))) (h0 : 0 ≤ i) (h1 : i ≤ j) (h2 : j ≤ l.length) (h3 : 0 < l.length) :
    OpC P ⟨d, .slice t x (some y) (some z) none, ty, pos, af, g⟩ ⟨ps ++ (qs ++ rs), [(n, .ob (.val v) (rowH e 1 R l))], .pv (.is (subLH i.toNat j.toNat v)), []⟩ :=
  OpC.read fun act w F hp hr => by
    obtain ⟨xs, h4, h5, h6⟩ := hr (n, .ob (.val v) (rowH e 1 R l)) (by simp)
    obtain ⟨ad, cap, e1, h7, h8, h9⟩ := row_shape h4
    simp only [Anc.v] at e1
    have e2 := (hy act w _ hp.right.left).1
    have e4 := (hz act w _ hp.right.right).1
    have e3 : act.eval x = .slice ad l.length cap := by rw [hx act w _ hp.left]; exact e1
    rcases h9 with h9 | ⟨b, rfl, _, _⟩
    · omega
    · subst e1
      have hh : (Instr.sliceBounds true l.length cap (some (.int k i)) (some (.int k' j)) none).run P w = .ok (i.toNat, j.toNat, cap) w := by
        have h01 : 0 ≤ j := by omega
        have h02 : j.toNat ≤ cap := by omega
        have h03 : j ≤ (cap : Int) := by omega
        have h04 : i.toNat ≤ j.toNat := by omega
        have h05 : i ≤ (j.toNat : Int) := by omega
        simp [Instr.sliceBounds, Instr.sliceBound, asIntOf, h0, h01, h02, h03, h04, h05]
        try (intro h; exfalso; omega)
      by_cases hci : cap - i.toNat = 0
      · refine ⟨.slice (some ⟨b, 0, none⟩) (j.toNat - i.toNat) (cap - i.toNat), ?_, fun τ _ => ⟨by simp [subLH, hci], rfl⟩⟩
        simp only [execOp, e3, e2, e4, Option.map_none, Option.map_some, Instr.sliceAt, Sem.run_bind, run_underlying he.1, Result.andThen_ok, Instr.slice, hh, run_sizeOf he.2, Sem.run_pure, if_pos hci, Addr.add]
        simp [hci]
        try (intro h; omega)
      · refine ⟨.slice (some ⟨b, 0 + i.toNat, none⟩) (j.toNat - i.toNat) (cap - i.toNat), ?_, fun τ _ => ⟨by simp [subLH, hci], rfl⟩⟩
        have hne2 : ¬ cap = i.toNat := by omega
        have had : (if i.toNat * 1 = 0 then (⟨b, 0, none⟩ : Addr) else ⟨b, 0 + i.toNat * 1, none⟩) = ⟨b, 0 + i.toNat, none⟩ := by
          split
          · rename_i h; rw [Nat.mul_one] at h; rw [h]
          · rw [Nat.mul_one]
        simp only [execOp, e3, e2, e4, Option.map_none, Option.map_some, Instr.sliceAt, Sem.run_bind, run_underlying he.1, Result.andThen_ok, Instr.slice, hh, run_sizeOf he.2, Sem.run_pure, if_neg hci, Addr.add]
        simp [hne2]
        try (intro h; omega)
theorem o_copy_lh {α : Type} {R : α → List PV} {l s : List α} {t t2 e T : TypeId} {x y : Operand} {ps qs : List (Nat × SF)} {i j : Nat} {v : Value} {d' : Nat} (n : Nat) (hu : P.underlying t = some (.slice e)) (hs : (P.info? e).map (·.size) = some 1) (hR : ∀ x, (R x).length = 1) (hx : Opd x ps (.pv (.is (subLH i j v)))) (hy : Opd y qs (.pv (.sl R s))) (h1 : i ≤ j) (h2 : j ≤ l.length) (h3 : 0 < l.length) (hlen : s.length = j - i) :
    OpC P ⟨some d', .call { callee := .builtin .copy, args := #[x, y], argTypes := #[t, t2] }, ty, pos, af, g⟩ ⟨ps ++ qs, [(n, .ob (.val v) (rowH T 1 R l))], .pv .any, [(n, .ob (.val v) (rowH T 1 R (l.take i ++ s ++ l.drop j)))]⟩ := fun act w F K Q hw hp hr ht => by
  obtain ⟨xs, r1, r2, r3⟩ := hr (n, .ob (.val v) (rowH T 1 R l)) (by simp)
  simp only [Anc.v] at r1 r3
  have hxl := r1.1
  rcases r1.2 with ⟨_, hn0⟩ | ⟨b, cap, cur, ev, _, hg, hnc, hcm, hcs, htake⟩
  · omega
  · obtain ⟨o, ho, ex⟩ : ∃ o : Nat, (o = i ∨ (o = 0 ∧ j - i = 0)) ∧ act.eval x = .slice (some ⟨b, o, none⟩) (j - i) (cap - i) := by
      refine ⟨if cap - i = 0 then 0 else 0 + i, ?_, by rw [(hx act w (U F) hp.left).1, ev]; rfl⟩
      split
      · exact .inr ⟨rfl, by omega⟩
      · exact .inl (by omega)
    obtain ⟨sa, sc, es, hsc, hscm, hsv⟩ := hy act w (U F) hp.right
    have ht0 : ∀ u, upd (Act.tau act) (some d') u = upd (Act.tau act) (some d') u := fun _ => rfl
    have hfm := fm_len hR
    have hcur : cur.toList.length = cur.size := by simp
    have hf : ∀ z, F n z ↔ z = b := fun z => by rw [r3 z, ev]; simp [Value.ownBlock, eq_comm]
    -- what is copied
    obtain ⟨cs, hrun, hcl, hcp⟩ : ∃ cs : List Value, (execOp act.eval ⟨some d', .call { callee := .builtin .copy, args := #[x, y], argTypes := #[t, t2] }, ty, pos, af, g⟩).run P w = .ok (.value (goInt cs.length)) (w.setRow b (cur.toList.take i ++ cs ++ cur.toList.drop (i + cs.length)).toArray) ∧ cs.length = j - i ∧ PVs (s.flatMap R) cs w (U F) := by
      rcases hsv with hsn | ⟨sb, soff, svs, rfl, hny, hsb, hcells, hpv⟩
      · subst hsn
        have hji : j - i = 0 := by simpa using hlen.symm
        refine ⟨[], ?_, by simp [hji], trivial⟩
        have hw0 : w.setRow b (cur.toList.take i ++ [] ++ cur.toList.drop (i + ([] : List Value).length)).toArray = w := by
          simp only [List.append_nil, List.length_nil, Nat.add_zero, List.take_append_drop, Array.toArray_toList]
          exact setRow_self w b cur T (0, 0) hg
        rw [hw0]
        cases sa with
        | none => simp [execOp, resolve, invoke, builtin, ex, es, hji, Builtin.copy_, run_underlying hu, Builtin.lenOf, Builtin.firstCells, run_sizeOf hs, goInt, storeCells]
        | some sa =>
          have hl0 := run_loadCells_list (P := P) w sa [] (by simp)
          simp only [List.length_nil] at hl0
          simp [execOp, resolve, invoke, builtin, ex, es, hji, Builtin.copy_, run_underlying hu, Builtin.lenOf, Builtin.firstCells, run_sizeOf hs, goInt, storeCells, hl0]
      · have hsl : svs.length = s.length := by rw [← hpv.len, hfm]; omega
        have hc := run_copy_row (P := P) w t t2 ty e b o (j - i) (cap - i) ⟨sb, soff, none⟩ s.length sc cur T svs hu hs hg (by rw [hsl, hlen]; exact (Nat.min_self _).symm) (fun k u hk => by rw [add_lit]; exact cellsAt.get hcells k u hk) (by rw [hsl, hlen]; rw [hcs]; rcases ho with ho | ho <;> omega) hpv.one
        have hoi : (cur.toList.take i ++ svs ++ cur.toList.drop (i + svs.length)).toArray = (cur.toList.take o ++ svs ++ cur.toList.drop (o + svs.length)).toArray := by
          rcases ho with rfl | ⟨_, ho⟩
          · rfl
          · have : svs = [] := List.eq_nil_of_length_eq_zero (by omega)
            subst this; simp
        refine ⟨svs, ?_, by rw [hsl, hlen], hpv⟩
        rw [hoi]
        simp only [execOp, resolve, invoke, builtin, ex, es]
        simp [hc, resolve, invoke, builtin, ex, es]
    obtain ⟨g1, g2⟩ := set_block hw hg hf (cur.toList.take i ++ cs ++ cur.toList.drop (i + cs.length)).toArray
    simp only [Oper.wp, hrun, Oper.upon]
    refine ht _ _ F g1 g2 trivial ?_
    intro z' hz'
    simp only [List.mem_singleton] at hz'
    subst hz'
    have hll : (l.take i ++ s ++ l.drop j).length = l.length := by simp; omega
    have htk : (cur.toList.take i ++ cs ++ cur.toList.drop (i + cs.length)).take l.length = xs.take i ++ cs ++ xs.drop j := by
      have e1 : cur.toList.take i = xs.take i := by rw [← htake, List.take_take, Nat.mul_one, Nat.min_eq_left (by omega)]
      have e2 : xs.drop j = (cur.toList.drop j).take (l.length - j) := by rw [← htake, Nat.mul_one, List.drop_take]
      have e3 : i + cs.length = j := by omega
      have e4 : (xs.take i).length = i := by rw [List.length_take, hxl]; omega
      rw [e1, e3, List.take_append, List.take_of_length_le (by rw [List.length_append, e4]; omega), List.length_append, e4, e3, e2]
    refine ⟨xs.take i ++ cs ++ xs.drop j, ⟨?_, .inr ⟨b, cap, _, by rw [hll]; exact ev, Nat.zero_le _, setRow_heap w b cur _ T (0, 0) hg, by rw [hll]; exact hnc, hcm, ?_, ?_⟩⟩, ?_, r3⟩
    · rw [hll, List.length_append, List.length_append, List.length_take, List.length_drop, hxl, hcl]; omega
    · simp only [List.size_toArray, List.length_append, List.length_take, List.length_drop]
      omega
    · rw [hll, Nat.mul_one]; exact htk
    · rw [List.flatMap_append, List.flatMap_append]
      have hev := g2.ev
      have hp1 := PVs.mono hev r2
      have hps : PVs ((l.take i).flatMap R) (xs.take i) (w.setRow b (cur.toList.take i ++ cs ++ cur.toList.drop (i + cs.length)).toArray) (U F) := by
        have := hp1.take i
        rwa [← Nat.mul_one i, ← fm_take hR, Nat.mul_one] at this
      have hpd : PVs ((l.drop j).flatMap R) (xs.drop j) (w.setRow b (cur.toList.take i ++ cs ++ cur.toList.drop (i + cs.length)).toArray) (U F) := by
        have := hp1.drop j
        rwa [← Nat.mul_one j, ← fm_drop hR, Nat.mul_one] at this
      exact (hps.append (PVs.mono hev hcp)).append hpd
/-- A call of a function value that changes nothing. -/
theorem o_callClosP {f : FuncId} {x : Operand} {args : Array Operand} {tys : Array TypeId} {qs ps : List (Nat × SF)} {avs cps : List PV} {q : PV} {fn : Func} (hx : Opd x qs (.pv (.clos f cps)))
    (hc : FnP P f (avs ++ cps) q) (hf : P.funcs[f]? = some fn) (hb : fn.body.isSome = true) (hn : (fn.name == "runtime.NumGoroutine") = false)
    (ha : ∀ (a : Act) w y, Hps ps (Act.tau a) w y → ∃ vs : List Value, args.map a.eval = vs.toArray ∧ PVt avs vs w y) :
    OpC P ⟨d, .call { callee := .value x, args := args, argTypes := tys }, ty, pos, af, g⟩ ⟨qs ++ ps, [], .pv q, []⟩ := fun a w F K Q hw hp hr ht => by
  obtain ⟨vs, e, hvs⟩ := ha a w (U F) hp.right
  obtain ⟨caps, e2, hcs⟩ := hx a w (U F) hp.left
  have hbn : fn.body ≠ none := by intro h; rw [h] at hb; cases hb
  have hn' : fn.name ≠ "runtime.NumGoroutine" := by intro h; rw [h] at hn; simp at hn
  have hrun : (execOp a.eval ⟨d, .call { callee := .value x, args := args, argTypes := tys }, ty, pos, af, g⟩).run P w = .ok (.enter f (vs ++ caps).toArray) w := by
    simp [execOp, resolve, e, e2, Deferred.ofValue, invoke, callFunc, hf, hn', hbn]
  simp only [Oper.wp, hrun, Oper.upon]
  refine (hc w (U F) (vs ++ caps) (fun b ⟨n, hn⟩ => hw.bd n b hn) (hvs.append hcs)).mono ?_
  rintro e' w' ⟨v, rfl, hq, hbel⟩
  have hst : Stp [] w F w' F := ⟨hbel.os, hbel.tape, hbel.output, hbel.size, fun b hb _ => hbel.block b hb, fun _ _ => rfl, fun _ h => by cases h⟩
  exact ht v w' F ⟨hw.dis, fun n b hn => Nat.lt_of_lt_of_le (hw.bd n b hn) hbel.size⟩ hst hq (fun x hx => by cases hx)
end
/-- A row whose handle slot j holds, handed over; a new one comes back. -/
theorem o_callFN {P : Program} {ty : TypeId} {pos : String} {af : Array Edge} {g : Option (Nat × Bool)} {α : Type} {R : α → List PV} {T sz : Nat} {l : List α} {f : FuncId} {args : Array Operand} {tys : Array TypeId} {d' : Nat} {ps : List (Nat × SF)} {avs : Value → List PV} {h' : Value → HP} {q : PV} {fn : Func} (j n2 : Nat)
    (hc : ∀ v, FnG P f 1 (avs v) [rowH T sz R l v] q (fun u => [h' u])) (hf : P.funcs[f]? = some fn) (hb : fn.body.isSome = true) (hn : (fn.name == "runtime.NumGoroutine") = false)
    (ha : ArgsF j args ps avs) (h1 : ∀ v w y, q.p v w y → v.oneCell' = true) :
    OpC P ⟨some d', .call { callee := .value (.func f), args := args, argTypes := tys }, ty, pos, af, g⟩ ⟨ps, [(n2, .ob (.slot j) (rowH T sz R l))], .same d', [(n2, .ob (.slot d') h')]⟩ := fun a w F K Q hw hp hr ht => by
  have hx := o_callRowN (P := P) (ty := ty) (pos := pos) (af := af) (g := g) (tys := tys) (d' := d') (ps := (j, .pv (PV.nm (Act.tau a j))) :: ps) n2 (hc (Act.tau a j)) hf hb hn
    (args := args) (fun a' w y hp' => by
      have e : Act.tau a' j = Act.tau a j := hp' (j, .pv (PV.nm (Act.tau a j))) (by simp)
      obtain ⟨vs, h1, h2⟩ := ha a' w y (fun x hx => hp' x (by simp [hx]))
      exact ⟨vs, h1, by rw [← e]; exact h2⟩) h1
  refine hx a w F K Q hw (fun x hx => ?_) (fun x hx => ?_) ht
  · rcases List.mem_cons.1 hx with rfl | hx
    · rfl
    · exact hp x hx
  · simp only [List.mem_cons, List.not_mem_nil, or_false] at hx
    subst hx
    exact hr (n2, .ob (.slot j) (rowH T sz R l)) (by simp)
/-- An element of the rest of a row of one's own. -/
theorem o_indexAddr_sub {P : Program} {d : Option Nat} {ty : TypeId} {pos : String} {af : Array Edge} {g : Option (Nat × Bool)} {α : Type} {R : α → List PV} {l : List α} {t e T : TypeId} {sz j : Nat} {x y : Operand} {ps qs : List (Nat × SF)} {k : IntKind} {i : Int} {v : Value} (n : Nat) (he : elemOk P t e sz) (hx : Opd x ps (.pv (.is (subV sz j v)))) (hy : Opd y qs (.pv (.int k i))) (h0 : 0 ≤ i) (h1 : j + i.toNat < l.length) (hd : depOk d (.adr (.val v) ((j + i.toNat) * sz)) = true) :
    OpC P ⟨d, .indexAddr t x y, ty, pos, af, g⟩ ⟨ps ++ qs, [(n, .ob (.val v) (rowH T sz R l))], .adr (.val v) ((j + i.toNat) * sz), []⟩ :=
  OpC.read fun act w F hp hr => by
    obtain ⟨xs, h2, h3, h4⟩ := hr (n, .ob (.val v) (rowH T sz R l)) (by simp)
    obtain ⟨ad, cap, e1, h5, h6, h7⟩ := row_shape h2
    simp only [Anc.v] at e1
    have e2 := (hy act w _ hp.right).1
    rcases h7 with h7 | ⟨b, rfl, _, _⟩
    · omega
    · have e3 : act.eval x = .slice (some ⟨b, 0 + j * sz, none⟩) (l.length - j) (cap - j) := by rw [(hx act w _ hp.left).1, e1]; rfl
      have ev : (Anc.val v).v (Act.tau act) = .slice (some ⟨b, 0, none⟩) l.length cap := e1
      refine ⟨.pointer (some ⟨b, 0 + j * sz + i.toNat * sz, none⟩), by simp [execOp, e3, e2, run_index he h0 (show i < ((l.length - j : Nat) : Int) by omega)], fun τ' ht => depOk_mono (w := w) (y := U F) hd ht ?_⟩
      simp [SF.holds, ev, shift, Nat.add_mul]
end Go.Gm

namespace Go.Gm
set_option linter.unusedVariables false
set_option linter.unusedSimpArgs false
set_option linter.unusedSectionVars false
section
variable {P : Program} {o : Oper}
theorem upd_ne {τ : Tau} {d : Option Nat} {v : Value} {j : Nat} (hd : (d == some j) = false) : upd τ d v j = τ j := by
  unfold upd
  cases d with
  | none => simp
  | some k => simp at hd; simp [hd]
/-- An operation at a value that a slot of the region holds: what it tells hangs on that slot. -/
theorem o_fnSame {i j : Nat} {ps : List (Nat × SF)} {pr qr : List (Nat × RS)} {p : Value → PV} (hd : (o.dst == some j) = false) (h : ∀ z, OpC P o ⟨(i, .pv (.is z)) :: ps, pr, .pv (p z), qr⟩) :
    OpC P o ⟨(i, .same j) :: ps, pr, .fn j p, qr⟩ := fun a w F K Q hw hp hr ht => by
  have h1 := hp (i, .same j) (by simp)
  refine h (Act.tau a j) a w F K Q hw (fun x hx => ?_) hr (fun v w' F' g1 g2 g3 g4 => ht v w' F' g1 g2 ?_ g4)
  · rcases List.mem_cons.1 hx with rfl | hx
    · exact h1
    · exact hp x (by simp [hx])
  · show (p (upd (Act.tau a) o.dst v j)).p v w' (U F')
    rw [upd_ne hd]; exact g3
/-- What an operation leaves hangs on a slot. -/
theorem o_fnOb {i j m : Nat} {ps : List (Nat × SF)} {pr : List (Nat × RS)} {p : Value → PV} {q : SF} {a : Anc} {g : Value → Value → HP} (hd : (o.dst == some j) = false) (h : ∀ z, OpC P o ⟨ps ++ [(i, .pv (p z))], pr, q, [(m, .ob a (g z))]⟩) :
    OpC P o ⟨ps ++ [(i, .fn j p)], pr, q, [(m, .obf j a g)]⟩ := fun act w F K Q hw hp hr ht => by
  refine h (Act.tau act j) act w F K Q hw (fun x hx => ?_) hr (fun v w' F' g1 g2 g3 g4 => ht v w' F' g1 g2 g3 fun x hx => ?_)
  · rcases List.mem_append.1 hx with hx | hx
    · exact hp x (by simp [hx])
    · simp only [List.mem_singleton] at hx; subst hx
      exact hp (i, .fn j p) (by simp)
  · simp only [List.mem_singleton] at hx; subst hx
    have h9 := g4 (m, .ob a (g (Act.tau act j))) (by simp)
    show (g (upd (Act.tau act) o.dst v j) (a.v _)).p w' _ _
    rw [upd_ne hd]; exact h9
theorem o_sameOb {i j m : Nat} {ps : List (Nat × SF)} {pr : List (Nat × RS)} {q : SF} {a : Anc} {g : Value → Value → HP} (hd : (o.dst == some j) = false) (h : ∀ z, OpC P o ⟨ps ++ [(i, .pv (.is z))], pr, q, [(m, .ob a (g z))]⟩) :
    OpC P o ⟨ps ++ [(i, .same j)], pr, q, [(m, .obf j a g)]⟩ := fun act w F K Q hw hp hr ht => by
  refine h (Act.tau act j) act w F K Q hw (fun x hx => ?_) hr (fun v w' F' g1 g2 g3 g4 => ht v w' F' g1 g2 g3 fun x hx => ?_)
  · rcases List.mem_append.1 hx with hx | hx
    · exact hp x (by simp [hx])
    · simp only [List.mem_singleton] at hx; subst hx
      exact hp (i, .same j) (by simp)
  · simp only [List.mem_singleton] at hx; subst hx
    have h9 := g4 (m, .ob a (g (Act.tau act j))) (by simp)
    show (g (upd (Act.tau act) o.dst v j) (a.v _)).p w' _ _
    rw [upd_ne hd]; exact h9
/-- What is owned changes under a guard. -/
theorem Cert.condC {ops : Array Oper} {ps : List (Nat × SF)} {pr pr' pr2 : List (Nat × RS)} {q : SF} {j sj : Nat} {want β : Bool} (hg : o.guard = some (j, want))
    (hj : (ops[j]?).bind (·.dst) = some sj) (hc : rsClosed pr2 = true) (e1 : β = want → pr' = pr2) (e2 : ¬ β = want → pr = pr2) (h : β = want → OpC P o ⟨ps, pr, q, pr'⟩) : Cert P ops o ⟨(sj, .pv (.bool β)) :: ps, pr, .when (β = want) q, pr2⟩ := fun a w F K Q hw hs hr ht => by
  have hb : Act.tau a sj = .bool β := hs (sj, .pv (.bool β)) (by simp)
  by_cases hβ : β = want
  · have : Region.wanted o (yielded ops a.tmps) = true := by simp [Region.wanted, hg, yielded_bool hj hb, hβ]
    rw [if_pos this]
    have e := e1 hβ; subst e
    exact h hβ a w F K Q hw (fun x hx => hs x (by simp [hx])) hr (fun v w' F' h1 h2 h3 h4 => ht v w' F' h1 h2 ⟨fun _ => h3, fun h => absurd hβ h⟩ h4)
  · have : Region.wanted o (yielded ops a.tmps) = false := by
      simp [Region.wanted, hg, yielded_bool hj hb, hβ]
    rw [this]
    have e := e2 hβ; subst e
    exact ht _ w F hw (Stp.any _ w F) ⟨fun h => absurd h hβ, fun _ => rfl⟩ (fun x hx => RS.closed (rsClosed_mem hc hx) (hr x hx))
/-- A contract at whatever pointer the object has. -/
theorem FnG.ptrAny {f : FuncId} {m : Nat} {args : Value → List PV} {pr : Value → List HP} {q : Value → PV} {qr : Value → Value → List HP} {h0 : Value → HP} (hp : ∀ {v w f y}, (h0 v).p w f y → ∃ b, v = .pointer (some ⟨b, 0, none⟩)) (h1 : ∀ v, (pr v)[0]? = some (h0 v))
    (h : ∀ b, FnG P f m (args (.pointer (some ⟨b, 0, none⟩))) (pr (.pointer (some ⟨b, 0, none⟩))) (q (.pointer (some ⟨b, 0, none⟩))) (qr (.pointer (some ⟨b, 0, none⟩)))) (v : Value) : FnG P f m (args v) (pr v) (q v) (qr v) := fun w F vs hw hle hvs hpr => by
  obtain ⟨b, rfl⟩ := hp (hpr 0 _ (h1 v))
  exact h b w F vs hw hle hvs hpr
/-- A row's cells are the same though what is told of them is not. -/
theorem rowH_same {α β : Type} {T sz : Nat} {R : α → List PV} {R' : β → List PV} {l : List α} {l' : List β} {v : Value} (hn : l.length = l'.length) (h : l.flatMap R = l'.flatMap R') {w : World} {f y : Ys} (k : (rowH T sz R l v).p w f y) : (rowH T sz R' l' v).p w f y := by
  obtain ⟨xs, h1, h2, h3⟩ := k
  exact ⟨xs, by rw [← hn]; exact h1, by rw [← h]; exact h2, h3⟩
end
end Go.Gm
