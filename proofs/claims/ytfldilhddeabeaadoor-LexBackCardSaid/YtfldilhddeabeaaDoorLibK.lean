/- Objects: what is owned, told as one; contracts of functions that change them. No condition. -/
import Derived.Test.YtfldilhddeabeaaDoorLibJ
namespace Go.Gm
set_option linter.unusedVariables false
set_option linter.unusedSimpArgs false
open Go.RowKit

def tau0 : Tau := fun _ => undef
theorem RS.closed {r : RS} (h : r.deps = []) {τ τ' : Tau} {w f y} (k : r.holds τ w f y) : r.holds τ' w f y :=
  RS.mono (Ev.refl w y) (fun _ _ => rfl) (fun i hi => by rw [h] at hi; cases hi) k

abbrev RS.hp (h : HP) : RS := .ob (.val undef) fun _ => h

/-- Some owned things, side by side. -/
def stars (w : World) (y : Ys) : List RS → Ys → Prop
  | [], f => ∀ b, ¬ f b
  | r :: rs, f => ∃ f1 f2, (∀ b, f b ↔ f1 b ∨ f2 b) ∧ (∀ b, f1 b → ¬ f2 b) ∧ r.deps = [] ∧ r.holds tau0 w f1 y ∧ stars w y rs f2
theorem stars.mono {w y w' y'} (h : Ev w y w' y') : ∀ {rs : List RS} {f : Ys}, (∀ b, f b → w'.heap[b]? = w.heap[b]?) → stars w y rs f → stars w' y' rs f
  | [], f, _, k => k
  | r :: rs, f, hf, ⟨f1, f2, h1, h2, h3, h4, h5⟩ => ⟨f1, f2, h1, h2, h3, RS.mono h (fun b hb => hf b ((h1 b).2 (.inl hb))) (fun _ _ => rfl) h4, stars.mono h (fun b hb => hf b ((h1 b).2 (.inr hb))) h5⟩
def HP.star (rs : List RS) : HP := ⟨fun w f y => stars w y rs f, fun h hf k => stars.mono h hf k⟩
def HP.ex {α : Type} (g : α → HP) : HP := ⟨fun w f y => ∃ x, (g x).p w f y, fun h hf ⟨x, k⟩ => ⟨x, (g x).st h hf k⟩⟩
/-- .. of which something holds besides. -/
def HP.and (c : Prop) (g : HP) : HP := ⟨fun w f y => c ∧ g.p w f y, fun h hf ⟨x, k⟩ => ⟨x, g.st h hf k⟩⟩

section
variable {B : Base} {E : En} {a : Act} {w : World} {F : Fp}

/-- Another parting of what is owned. -/
theorem Sat.repart {R : List (Nat × RS)} (h : Sat B E a w F) (F' : Fp) (hU : ∀ b, U F' b ↔ U F b) (hdis : ∀ n m b, F' n b → F' m b → n = m) (hr : ∀ n r, look R n = some r → r.holds (Act.tau a) w (F' n) (U F))
    (hem : ∀ n b, F' n b → ∃ r, look R n = some r) : Sat B ⟨E.s, R⟩ a w F' := by
  have e : U F' = U F := by funext b; exact propext (hU b)
  refine ⟨⟨hdis, fun n b hb => ?_⟩, by rw [e]; exact h.ev, h.n, h.df, fun i s hl => by rw [e]; exact h.s i s hl, fun n r hl => by rw [e]; exact hr n r hl, hem⟩
  obtain ⟨m, hm⟩ := (hU b).1 ⟨n, hb⟩
  exact h.wf.bd m b hm

theorem Sat.open_ex {α : Type} {g : α → HP} (h : Sat B E a w F) (n : Nat) (hl : look E.r n = some (RS.hp (HP.ex g))) : ∃ x, Sat B ⟨E.s, (n, RS.hp (g x)) :: E.r⟩ a w F := by
  obtain ⟨x, hx⟩ := h.r n _ hl
  refine ⟨x, h.repart F (fun _ => Iff.rfl) h.wf.dis (fun m r hm => ?_) (fun m b hb => ?_)⟩
  · rw [look_cons] at hm
    split at hm
    · rename_i e; simp at hm; subst hm; subst e; exact hx
    · exact h.r m r hm
  · rw [look_cons]
    by_cases e : n = m
    · exact ⟨_, if_pos e⟩
    · rw [if_neg e]; exact h.em m b hb
theorem Sat.open_and {c : Prop} {g : HP} (h : Sat B E a w F) (n : Nat) (hl : look E.r n = some (RS.hp (HP.and c g))) : c ∧ Sat B ⟨E.s, (n, RS.hp g) :: E.r⟩ a w F := by
  obtain ⟨x, hx⟩ := h.r n _ hl
  refine ⟨x, h.repart F (fun _ => Iff.rfl) h.wf.dis (fun m r hm => ?_) (fun m b hb => ?_)⟩
  · rw [look_cons] at hm
    split at hm
    · rename_i e; simp at hm; subst hm; subst e; exact hx
    · exact h.r m r hm
  · rw [look_cons]
    by_cases e : n = m
    · exact ⟨_, if_pos e⟩
    · rw [if_neg e]; exact h.em m b hb
/-- Something weaker in the place of a resource. -/
theorem Sat.turn {r r' : RS} (h : Sat B E a w F) (n : Nat) (hl : look E.r n = some r) (hr : ∀ τ w f y, r.holds τ w f y → r'.holds τ w f y) : Sat B ⟨E.s, (n, r') :: E.r⟩ a w F := by
  refine h.repart F (fun _ => Iff.rfl) h.wf.dis (fun m r hm => ?_) (fun m b hb => ?_)
  · rw [look_cons] at hm
    split at hm
    · rename_i e; simp at hm; subst hm; subst e; exact hr _ _ _ _ (h.r n _ hl)
    · exact h.r m r hm
  · rw [look_cons]
    by_cases e : n = m
    · exact ⟨_, if_pos e⟩
    · rw [if_neg e]; exact h.em m b hb
theorem Sat.close_ex {α : Type} {g : α → HP} (x : α) (h : Sat B E a w F) (n : Nat) (hl : look E.r n = some (RS.hp (g x))) : Sat B ⟨E.s, (n, RS.hp (HP.ex g)) :: E.r⟩ a w F := h.turn n hl fun _ _ _ _ k => ⟨x, k⟩
theorem Sat.close_and {c : Prop} {g : HP} (hc : c) (h : Sat B E a w F) (n : Nat) (hl : look E.r n = some (RS.hp g)) : Sat B ⟨E.s, (n, RS.hp (HP.and c g)) :: E.r⟩ a w F := h.turn n hl fun _ _ _ _ k => ⟨hc, k⟩

/-- One thing is taken out. -/
theorem Sat.peel {r : RS} {rs : List RS} (h : Sat B E a w F) (n i : Nat) (hl : look E.r n = some (RS.hp (HP.star (r :: rs)))) (hi : look E.r i = none) : ∃ F', Sat B ⟨E.s, (i, r) :: (n, RS.hp (HP.star rs)) :: E.r⟩ a w F' := by
  obtain ⟨f1, f2, h1, h2, h3, h4, h5⟩ := h.r n _ hl
  have hni : n ≠ i := fun e => by subst e; rw [hl] at hi; cases hi
  have hFi : ∀ b, ¬ F i b := fun b hb => by obtain ⟨r, hr⟩ := h.em i b hb; rw [hi] at hr; cases hr
  have hd1 : ∀ m b, f1 b → F m b → m = n := fun m b hb hm => h.wf.dis m n b hm ((h1 b).2 (.inl hb))
  have hd2 : ∀ m b, f2 b → F m b → m = n := fun m b hb hm => h.wf.dis m n b hm ((h1 b).2 (.inr hb))
  refine ⟨fun m => if m = i then f1 else if m = n then f2 else F m, h.repart _ (fun b => ⟨?_, ?_⟩) ?_ (fun m r' hm => ?_) (fun m b hb => ?_)⟩
  · rintro ⟨m, hm⟩
    by_cases e1 : m = i
    · simp only [e1, if_true] at hm; exact ⟨n, (h1 b).2 (.inl hm)⟩
    · by_cases e2 : m = n
      · simp only [e1, if_false, e2, if_true] at hm
        simp only [hni, if_false] at hm
        exact ⟨n, (h1 b).2 (.inr hm)⟩
      · simp only [e1, if_false, e2] at hm; exact ⟨m, hm⟩
  · rintro ⟨m, hm⟩
    by_cases e2 : m = n
    · subst e2
      rcases (h1 b).1 hm with k | k
      · exact ⟨i, by simpa using k⟩
      · exact ⟨m, by simp only [hni, if_false, if_true]; exact k⟩
    · have e1 : m ≠ i := fun e => hFi b (e ▸ hm)
      exact ⟨m, by simp only [e1, e2, if_false]; exact hm⟩
  · intro m k b hm hk
    by_cases e1 : m = i <;> by_cases e2 : k = i
    · rw [e1, e2]
    · simp only [e1, if_true] at hm
      simp only [e2, if_false] at hk
      by_cases e3 : k = n
      · simp only [e3, if_true] at hk; exact absurd hk (h2 b hm)
      · simp only [e3, if_false] at hk; exact absurd (hd1 k b hm hk) e3
    · simp only [e2, if_true] at hk
      simp only [e1, if_false] at hm
      by_cases e3 : m = n
      · simp only [e3, if_true] at hm; exact absurd hm (h2 b hk)
      · simp only [e3, if_false] at hm; exact absurd (hd1 m b hk hm) e3
    · simp only [e1, e2, if_false] at hm hk
      by_cases e3 : m = n <;> by_cases e4 : k = n
      · rw [e3, e4]
      · simp only [e3, if_true, e4, if_false] at hm hk; exact absurd (hd2 k b hm hk) e4
      · simp only [e3, if_false, e4, if_true] at hm hk; exact absurd (hd2 m b hk hm) e3
      · simp only [e3, e4, if_false] at hm hk; exact h.wf.dis m k b hm hk
  · rw [look_cons] at hm
    split at hm
    · rename_i e; simp at hm; subst hm; subst e; simp only [if_true]; exact RS.closed h3 h4
    · rename_i e
      have e' : m ≠ i := fun k => e k.symm
      rw [look_cons] at hm
      split at hm
      · rename_i e2; simp at hm; subst hm; subst e2; simp only [e', if_false, if_true]; exact h5
      · rename_i e2
        have e2' : m ≠ n := fun k => e2 k.symm
        simp only [e', e2', if_false]; exact h.r m r' hm
  · rw [look_cons, look_cons]
    by_cases e1 : i = m
    · exact ⟨_, if_pos e1⟩
    · rw [if_neg e1]
      by_cases e2 : n = m
      · exact ⟨_, if_pos e2⟩
      · rw [if_neg e2]
        have e1' : m ≠ i := fun k => e1 k.symm
        have e2' : m ≠ n := fun k => e2 k.symm
        simp only [e1', e2', if_false] at hb
        exact h.em m b hb

/-- .. and put in. -/
theorem Sat.push {r : RS} {rs : List RS} (h : Sat B E a w F) (n i : Nat) (hn : look E.r n = some (RS.hp (HP.star rs))) (hi : look E.r i = some r) (hne : Nat.beq n i = false) (hd : noDeps r.deps = true) : ∃ F', Sat B ⟨E.s, (n, RS.hp (HP.star (r :: rs))) :: (i, RS.hp (HP.star [])) :: E.r⟩ a w F' := by
  have hni : n ≠ i := fun e => by subst e; simp at hne
  have k1 := h.r n _ hn
  have k2 := h.r i _ hi
  refine ⟨fun m => if m = n then fun b => F i b ∨ F n b else if m = i then fun _ => False else F m, h.repart _ (fun b => ⟨?_, ?_⟩) ?_ (fun m r' hm => ?_) (fun m b hb => ?_)⟩
  · rintro ⟨m, hm⟩
    by_cases e1 : m = n
    · simp only [e1, if_true] at hm
      rcases hm with hm | hm
      · exact ⟨i, hm⟩
      · exact ⟨n, hm⟩
    · by_cases e2 : m = i
      · simp only [e1, if_false, e2, if_true] at hm
        have : i ≠ n := fun k => hni k.symm
        simp only [this, if_false] at hm
      · simp only [e1, e2, if_false] at hm; exact ⟨m, hm⟩
  · rintro ⟨m, hm⟩
    by_cases e1 : m = n
    · subst e1; exact ⟨m, by simp only [if_true]; exact .inr hm⟩
    · by_cases e2 : m = i
      · subst e2; exact ⟨n, by simp only [if_true]; exact .inl hm⟩
      · exact ⟨m, by simp only [e1, e2, if_false]; exact hm⟩
  · intro m k b hm hk
    have hx : ∀ m, (if m = n then fun b => F i b ∨ F n b else if m = i then fun _ => False else F m) b → (m = n ∧ (F i b ∨ F n b)) ∨ (m ≠ n ∧ m ≠ i ∧ F m b) := by
      intro m hm
      by_cases e1 : m = n
      · simp only [e1, if_true] at hm; exact .inl ⟨e1, hm⟩
      · by_cases e2 : m = i
        · simp only [e1, if_false, e2, if_true] at hm
          have : i ≠ n := fun k => hni k.symm
          simp only [this, if_false] at hm
        · simp only [e1, e2, if_false] at hm; exact .inr ⟨e1, e2, hm⟩
    rcases hx m hm with ⟨rfl, h1⟩ | ⟨h1, h2, h3⟩ <;> rcases hx k hk with ⟨rfl, h4⟩ | ⟨h4, h5, h6⟩
    · rfl
    · rcases h1 with h1 | h1
      · exact absurd (h.wf.dis k i b h6 h1) h5
      · exact absurd (h.wf.dis k m b h6 h1) h4
    · rcases h4 with h4 | h4
      · exact absurd (h.wf.dis m i b h3 h4) h2
      · exact absurd (h.wf.dis m k b h3 h4) h1
    · exact h.wf.dis m k b h3 h6
  · rw [look_cons] at hm
    split at hm
    · rename_i e
      simp at hm; subst hm; subst e
      simp only [if_true]
      exact ⟨F i, F n, fun b => Iff.rfl, fun b h1 h2 => hni (h.wf.dis n i b h2 h1), noDeps_eq hd, RS.closed (noDeps_eq hd) k2, k1⟩
    · rename_i e
      have e' : m ≠ n := fun k => e k.symm
      rw [look_cons] at hm
      split at hm
      · rename_i e2; simp at hm; subst hm; subst e2
        simp only [e', if_false, if_true]
        intro b hb; exact hb
      · rename_i e2
        have e2' : m ≠ i := fun k => e2 k.symm
        simp only [e', e2', if_false]; exact h.r m r' hm
  · rw [look_cons, look_cons]
    by_cases e1 : n = m
    · exact ⟨_, if_pos e1⟩
    · rw [if_neg e1]
      by_cases e2 : i = m
      · exact ⟨_, if_pos e2⟩
      · rw [if_neg e2]
        have e1' : m ≠ n := fun k => e1 k.symm
        have e2' : m ≠ i := fun k => e2 k.symm
        simp only [e1', e2', if_false] at hb
        exact h.em m b hb
/-- A handle that is not used yet owns nothing. -/
theorem Sat.fresh (h : Sat B E a w F) (n : Nat) (hn : look E.r n = none) : Sat B ⟨E.s, (n, RS.hp (HP.star [])) :: E.r⟩ a w F := by
  have hF : ∀ b, ¬ F n b := fun b hb => by obtain ⟨r, hr⟩ := h.em n b hb; rw [hn] at hr; cases hr
  refine h.repart F (fun _ => Iff.rfl) h.wf.dis (fun m r hm => ?_) (fun m b hb => ?_)
  · rw [look_cons] at hm
    split at hm
    · rename_i e; simp at hm; subst hm; subst e; exact hF
    · exact h.r m r hm
  · rw [look_cons]
    by_cases e : n = m
    · exact ⟨_, if_pos e⟩
    · rw [if_neg e]; exact h.em m b hb
end

/-- A function that changes objects: 'pr' ahead of it, 'qr' behind it, numbered from 1 to m. -/
def FnG (P : Program) (f : FuncId) (m : Nat) (args : List PV) (pr : List HP) (q : PV) (qr : Value → List HP) : Prop :=
  ∀ (w : World) (F : Fp) (vs : List Value), Wf F w → (∀ n b, F n b → n ≤ m) → PVt args vs w (U F) → (∀ i (h : HP), pr[i]? = some h → h.p w (F (i + 1)) (U F)) →
    Calls P f vs.toArray w fun e w' => ∃ v F', e = .returned v ∧ Wf F' w' ∧ Stp (List.range' 1 m) w F w' F' ∧ (∀ n b, F' n b → n ≤ m) ∧ q.p v w' (U F') ∧ ∀ i (h : HP), (qr v)[i]? = some h → h.p w' (F' (i + 1)) (U F')

def RG (B : Base) (F0 : Fp) (m : Nat) (q : PV) (qr : Value → List HP) (e : Ending) (w' : World) : Prop :=
  ∃ v F', e = .returned v ∧ Wf F' w' ∧ Stp (List.range' 1 m) B.w F0 w' F' ∧ (∀ n b, F' n b → n ≤ m) ∧ q.p v w' (U F') ∧ ∀ i (h : HP), (qr v)[i]? = some h → h.p w' (F' (i + 1)) (U F')

def resEnv : List HP → Nat → List (Nat × RS)
  | [], _ => []
  | h :: hs, i => (i, RS.hp h) :: resEnv hs (i + 1)
theorem resEnv_look : ∀ {hs : List HP} {k n : Nat} {r : RS}, look (resEnv hs k) n = some r → ∃ h, k ≤ n ∧ hs[n - k]? = some h ∧ r = RS.hp h
  | [], k, n, r, h => by simp [resEnv, look] at h
  | h :: hs, k, n, r, hl => by
    simp only [resEnv] at hl
    rw [look_cons] at hl
    by_cases e : k = n
    · subst e; simp at hl; subst hl; exact ⟨h, Nat.le_refl _, by simp, rfl⟩
    · rw [if_neg e] at hl
      obtain ⟨h', h1, h2, h3⟩ := resEnv_look hl
      exact ⟨h', by omega, by rw [show n - k = (n - (k + 1)) + 1 by omega]; simpa using h2, h3⟩
theorem resEnv_some : ∀ {hs : List HP} {k n : Nat} {h : HP}, k ≤ n → hs[n - k]? = some h → look (resEnv hs k) n = some (RS.hp h)
  | [], k, n, h, _, h2 => by simp at h2
  | x :: hs, k, n, h, h1, h2 => by
    simp only [resEnv]
    rw [look_cons]
    by_cases e : k = n
    · subst e; simp at h2; subst h2; simp
    · rw [if_neg e]
      exact resEnv_some (by omega) (by rw [show n - k = (n - (k + 1)) + 1 by omega] at h2; simpa using h2)

/-- The start's facts, kept. -/
structure BaseG (B : Base) (F0 : Fp) (m : Nat) : Prop where
  y : B.y = U F0
  fr : B.fr = F0 0
  le : ∀ n b, F0 n b → n ≤ m

theorem FnG.mk {P : Program} {f : FuncId} {m : Nat} {args : List PV} {pr : List HP} {q : PV} {qr : Value → List HP} {fn : Func} {c : Code} {n : Nat} (hf : P.funcs[f]? = some fn) (hb : fn.body = some c) (hn : fn.ntmps = n) (ha : Nat.ble args.length n = true) (hm : Nat.beq pr.length m = true)
    (h : ∀ B F0 a w F, B.n = n → BaseG B F0 m → Sat B ⟨argEnv args 0, (0, frame B) :: resEnv pr 1⟩ a w F → c.wp P (bodyPost P fn (RG B F0 m q qr)) a w) : FnG P f m args pr q qr := fun w F vs hw hle hvs hpr => by
  have hl := hvs.len
  have hlen : vs.length ≤ n := by rw [← hl]; exact Nat.le_of_ble_eq_true ha
  have hmm : pr.length = m := Nat.eq_of_beq_eq_true hm
  refine calls_of_wp hf hb (h ⟨w, U F, F 0, n⟩ F _ w F rfl ⟨rfl, rfl, hle⟩ ?_)
  refine ⟨hw, Ev.refl w _, ?_, rfl, fun i s hs => ?_, fun i r hr => ?_, fun i b hi => ?_⟩
  · subst hn; simp; omega
  · obtain ⟨v, h1, h2, h3⟩ := argEnv_look hvs hs
    have : Act.tau { tmps := vs.toArray ++ Array.replicate (fn.ntmps - vs.toArray.size) undef, defers := [] } i = v := by
      simp only [Nat.sub_zero] at h2
      have hi : i < vs.length := (List.getElem?_eq_some_iff.1 h2).1
      have h2' : vs[i] = v := by simpa [hi] using h2
      simp [Act.tau, Array.getElem?_append, hi, h2']
    rw [this]; exact h3 _
  · rw [look_cons] at hr
    by_cases e : 0 = i
    · subst e
      simp at hr
      subst hr
      exact ⟨fun b => Iff.rfl, fun b _ => rfl⟩
    · rw [if_neg e] at hr
      obtain ⟨h', h1, h2, rfl⟩ := resEnv_look hr
      have := hpr (i - 1) h' h2
      rw [show i - 1 + 1 = i by omega] at this
      exact this
  · by_cases e : 0 = i
    · exact ⟨frame ⟨w, U F, F 0, n⟩, by rw [look_cons, if_pos e]⟩
    · have h1 := hle i b hi
      have hlt : i - 1 < pr.length := by omega
      exact ⟨RS.hp pr[i - 1], by rw [look_cons, if_neg e]; exact resEnv_some (by omega) (by simp [hlt])⟩

theorem ret_G {P : Program} {B : Base} {F0 : Fp} {m : Nat} (hG : BaseG B F0 m) {E : En} {a : Act} {w : World} {F : Fp} {fn : Func} {q : PV} {qr : Value → List HP} {ss : List SF} (hS : Sat B E a w F) (h0 : look E.r 0 = some (frame B)) (hr : ROk P E fn.results.toList ss) (hq : Tells ss q)
    (hqr : ∀ v τ y, (∃ vs, v = valOf vs ∧ SFt τ w y ss vs) → ∀ i (h : HP), (qr v)[i]? = some h → ∃ r, look E.r (i + 1) = some r ∧ i + 1 ≤ m ∧ ∀ w f y, r.holds (Act.tau a) w f y → h.p w f y) :
    bodyPost P fn (RG B F0 m q qr) .ret a w := by
  obtain ⟨vs, h1, h2⟩ := hr.run hS
  have hf : (frame B).holds (Act.tau a) w (F 0) (U F) := hS.r 0 _ h0
  have hle : ∀ b, U (fun n b => n ≤ m ∧ F n b) b → U F b := fun b ⟨n, hn⟩ => ⟨n, hn.2⟩
  have hev := Ev.less w hle
  have hold : ∀ b, b < B.w.heap.size → ¬ U F0 b → w.heap[b]? = B.w.heap[b]? ∧ ¬ U F b := fun b hb hn => by
    have := hS.ev.block b hb (by rw [hG.y]; exact hn)
    exact this
  refine bodyPost_ret (results_run h2) hS.df ⟨_, fun n b => n ≤ m ∧ F n b, rfl, ⟨fun n k b hn hk => hS.wf.dis n k b hn.2 hk.2, fun n b hn => hS.wf.bd n b hn.2⟩, ?_, fun n b hn => hn.1, q.mono hev (hq _ _ _ _ h1), fun i h hi => ?_⟩
  · refine ⟨hS.ev.os, hS.ev.tape, hS.ev.output, hS.ev.size, fun b hb hn => ?_, fun n hn => ?_, fun n hn b hb => ?_⟩
    · by_cases e : F0 0 b
      · exact hf.2 b ((hf.1 b).2 (by rw [hG.fr]; exact e))
      · refine (hold b hb ?_).1
        rintro ⟨k, hk⟩
        have := hG.le k b hk
        by_cases e0 : k = 0
        · subst e0; exact e hk
        · exact hn k (by rw [List.mem_range'_1]; omega) hk
    · funext b
      rw [List.mem_range'_1] at hn
      by_cases e0 : n = 0
      · subst e0
        refine propext ⟨fun h => ?_, fun h => ⟨Nat.zero_le _, ?_⟩⟩
        · have := (hf.1 b).1 h.2; rw [hG.fr] at this; exact this
        · exact (hf.1 b).2 (by rw [hG.fr]; exact h)
      · refine propext ⟨fun h => ?_, fun h => ?_⟩
        · have := h.1; omega
        · have := hG.le n b h; omega
    · by_cases hlt : b < B.w.heap.size
      · left
        rw [List.mem_range'_1] at hn
        by_cases hu : U F0 b
        · obtain ⟨k, hk⟩ := hu
          have hkm := hG.le k b hk
          by_cases e0 : k = 0
          · subst e0
            have h00 : F 0 b := (hf.1 b).2 (by rw [hG.fr]; exact hk)
            have := hS.wf.dis n 0 b hb.2 h00
            omega
          · exact ⟨k, by rw [List.mem_range'_1]; omega, hk⟩
        · exact absurd ⟨n, hb.2⟩ (hold b hlt hu).2
      · right; omega
  · obtain ⟨r, h3, h4, h5⟩ := hqr _ _ _ ⟨vs, rfl, h1⟩ i h hi
    have k := hS.r (i + 1) r h3
    have e : (fun b => i + 1 ≤ m ∧ F (i + 1) b) = F (i + 1) := by funext b; simp only [h4, true_and]
    show h.p w (fun b => i + 1 ≤ m ∧ F (i + 1) b) _
    rw [e]
    exact h.st hev (fun _ _ => rfl) (h5 _ _ _ k)
end Go.Gm
