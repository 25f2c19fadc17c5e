/- A function's contract, its beginning and its end; tests; calls. No condition. -/
import Derived.Test.YtfldilhddeabeaaDoorLibE
namespace Go.Gm
set_option linter.unusedVariables false
set_option linter.unusedSimpArgs false
open Go.RowKit

/-- A function that changes nothing: told of arguments and a result. -/
def FnP (P : Program) (f : FuncId) (args : List PV) (q : PV) : Prop :=
  ∀ (w : World) (y : Ys) (vs : List Value), (∀ b, y b → b < w.heap.size) → PVt args vs w y →
    Calls P f vs.toArray w fun e w' => ∃ v, e = .returned v ∧ q.p v w' y ∧ Below w.heap.size w w'

/-- What is none of the call's own: as it was. -/
def frame (B : Base) : RS := .ob (.val undef) fun _ =>
  ⟨fun w f _ => (∀ b, f b ↔ B.fr b) ∧ ∀ b, f b → w.heap[b]? = B.w.heap[b]?, fun _ hf h => ⟨h.1, fun b hb => (hf b hb).trans (h.2 b hb)⟩⟩

def argEnv : List PV → Nat → List (Nat × SF)
  | [], _ => []
  | p :: ps, i => (i, .pv p) :: argEnv ps (i + 1)

theorem argEnv_look {w y} : ∀ {ps : List PV} {vs : List Value} {k : Nat} {i s}, PVt ps vs w y → look (argEnv ps k) i = some s → ∃ v, k ≤ i ∧ vs[i - k]? = some v ∧ ∀ τ, s.holds τ w y v
  | [], _, k, i, s, _, h => by simp [argEnv, look] at h
  | p :: ps, [], k, i, s, h, _ => h.elim
  | p :: ps, v :: vs, k, i, s, h, hl => by
    simp only [argEnv] at hl
    rw [look_cons] at hl
    by_cases e : k = i
    · subst e; simp at hl; subst hl; exact ⟨v, Nat.le_refl _, by simp, fun τ => h.1⟩
    · rw [if_neg e] at hl
      obtain ⟨u, h1, h2, h3⟩ := argEnv_look h.2 hl
      exact ⟨u, by omega, by rw [show i - k = (i - (k + 1)) + 1 by omega]; simpa using h2, h3⟩

def RP (B : Base) (q : PV) (e : Ending) (w' : World) : Prop := ∃ v, e = .returned v ∧ q.p v w' B.y ∧ Below B.w.heap.size B.w w'

theorem PVt.len {w y} : ∀ {ps : List PV} {vs : List Value}, PVt ps vs w y → ps.length = vs.length
  | [], [], _ => rfl
  | p :: ps, v :: vs, hh => by simp [PVt.len hh.2]
  | [], _ :: _, hh => hh.elim
  | _ :: _, [], hh => hh.elim

theorem FnP.mk {P : Program} {f : FuncId} {args : List PV} {q : PV} {fn : Func} {c : Code} {n : Nat} (hf : P.funcs[f]? = some fn) (hb : fn.body = some c) (hn : fn.ntmps = n) (ha : Nat.ble args.length n = true)
    (h : ∀ B a w F, B.n = n → B.fr = B.y → Sat B ⟨argEnv args 0, [(0, frame B)]⟩ a w F → c.wp P (bodyPost P fn (RP B q)) a w) : FnP P f args q := fun w y vs hy hvs => by
  have hl := hvs.len
  have hle : vs.length ≤ n := by rw [← hl]; exact Nat.le_of_ble_eq_true ha
  refine calls_of_wp hf hb (h ⟨w, y, y, n⟩ _ w (fun m b => m = 0 ∧ y b) rfl rfl ?_)
  have hU : U (fun m b => m = 0 ∧ y b) = y := by funext b; simp [U]
  refine ⟨⟨fun i j b hi hj => by rw [hi.1, hj.1], fun i b hi => hy b hi.2⟩, ?_, ?_, rfl, fun i s hs => ?_, fun i r hr => ?_, fun i b hi => ⟨frame ⟨w, y, y, n⟩, by obtain ⟨rfl, _⟩ := hi; rfl⟩⟩
  · rw [hU]; exact Ev.refl w y
  · subst hn; simp; omega
  · rw [hU]
    obtain ⟨v, h1, h2, h3⟩ := argEnv_look hvs hs
    have : Act.tau { tmps := vs.toArray ++ Array.replicate (fn.ntmps - vs.toArray.size) undef, defers := [] } i = v := by
      simp only [Nat.sub_zero] at h2
      have hi : i < vs.length := (List.getElem?_eq_some_iff.1 h2).1
      have h2' : vs[i] = v := by simpa [hi] using h2
      simp [Act.tau, Array.getElem?_append, hi, h2']
    rw [this]; exact h3 _
  · rw [look_cons] at hr
    by_cases e : 0 = i
    · subst e
      simp at hr
      subst hr
      exact ⟨fun b => by simp, fun b _ => rfl⟩
    · rw [if_neg e] at hr; simp [look] at hr

/-- What the results are. -/
inductive ROk (P : Program) (E : En) : List ResultVar → List SF → Prop
  | nil : ROk P E [] []
  | tmp {t : Nat} {s : SF} {rs : List ResultVar} {ss : List SF} (h : look E.s t = some s) (r : ROk P E rs ss) : ROk P E (.tmp t :: rs) (s :: ss)
  | cell {t : Nat} {T T' : TypeId} {an : Anc} {n sz : Nat} {ag : Bool} {cells : List CF} {rs : List ResultVar} {ss : List SF} {s0 : SF} (h : look E.s t = some s0) (hx : AdrOk (.tmp t) [(t, s0)] an 0) (hr : look E.r n = some (.pt an T' cells))
      (ha : P.aggB T = some ag) (hs : (P.info? T).map (·.size) = some sz) (hk : Nat.ble (0 + wid ag sz) cells.length = true) (r : ROk P E rs ss) : ROk P E (.cell t T :: rs) (ldSF ag sz cells 0 :: ss)

def SFt (τ : Tau) (w : World) (y : Ys) : List SF → List Value → Prop
  | [], [] => True
  | s :: ss, v :: vs => s.holds τ w y v ∧ SFt τ w y ss vs
  | _, _ => False

def rvSem (tmps : Array Value) : ResultVar → Sem Value
  | .tmp t => pure (tmps.getD t undef)
  | .cell a t => do loadVar t (← asAddr (tmps.getD a undef))
/-- Of each result its value. -/
def RVs (P : Program) (tmps : Array Value) (w : World) : List ResultVar → List Value → Prop
  | [], [] => True
  | r :: rs, v :: vs => (rvSem tmps r).run P w = .ok v w ∧ RVs P tmps w rs vs
  | _, _ => False

theorem ROk.run {P : Program} {B : Base} {E : En} {a : Act} {w : World} {F : Fp} (hS : Sat B E a w F) {rs : List ResultVar} {ss : List SF} (h : ROk P E rs ss) :
    ∃ vs : List Value, SFt (Act.tau a) w (U F) ss vs ∧ RVs P a.tmps w rs vs := by
  induction h with
  | nil => exact ⟨[], trivial, trivial⟩
  | @tmp t s rs ss h _ ih =>
    obtain ⟨vs, h1, h2⟩ := ih
    exact ⟨a.tmps.getD t undef :: vs, ⟨hS.s t s h, h1⟩, rfl, h2⟩
  | @cell t T T' an n sz ag cells rs ss s0 h hx hr ha hs hk _ ih =>
    obtain ⟨vs, h1, h2⟩ := ih
    obtain ⟨b, us, e, hb, hf, hc⟩ := pt_open (hS.r n _ hr)
    have ex : a.tmps.getD t undef = .pointer (some ⟨b, 0, none⟩) := hx a w (U F) (fun x hx => by simp only [List.mem_singleton] at hx; subst hx; exact hS.s t _ h) b e
    obtain ⟨v, h3, h4⟩ := run_load (P := P) ha hs hb hc hk
    exact ⟨v :: vs, ⟨h4, h1⟩, by simp only [rvSem, ex, asAddr, Sem.run_bind, Sem.run_pure, Result.andThen_ok, h3], h2⟩

def valOf : List Value → Value
  | [v] => v
  | vs => .tuple vs.toArray
/-- The value that is told, of what is known of the results. -/
def Tells (ss : List SF) (q : PV) : Prop := ∀ τ w y vs, SFt τ w y ss vs → q.p (valOf vs) w y

theorem results_eq (fn : Func) (tmps : Array Value) : results fn tmps = (fn.results.mapM (rvSem tmps) >>= fun vs => pure (if h : vs.size = 1 then vs[0] else .tuple vs)) := by
  unfold results
  congr 1

theorem mapM_run {P : Program} {tmps : Array Value} {w : World} : ∀ {rs : List ResultVar} {vs : List Value}, RVs P tmps w rs vs → (rs.mapM (rvSem tmps)).run P w = .ok vs w
  | [], [], _ => by simp
  | r :: rs, v :: vs, h => by simp [h.1, mapM_run h.2]
  | [], _ :: _, h => h.elim
  | _ :: _, [], h => h.elim

theorem results_run {P : Program} {fn : Func} {tmps : Array Value} {w : World} {vs : List Value} (h : RVs P tmps w fn.results.toList vs) :
    (results fn tmps).run P w = .ok (valOf vs) w := by
  rw [results_eq]
  have e : (fn.results.mapM (rvSem tmps)).run P w = .ok vs.toArray w := by
    have h1 := mapM_run h
    rcases fn with ⟨_, _, _, _, _, _, _, rs, _⟩
    rcases rs with ⟨rs⟩
    simp only [] at h1 ⊢
    rw [List.mapM_toArray]
    simp [h1]
  simp only [Sem.run_bind, e, Result.andThen_ok, Sem.run_pure]
  match vs with
  | [] => simp [valOf]
  | [v] => simp [valOf]
  | u :: v :: vs => simp [valOf]

theorem ret_P {P : Program} {B : Base} (hfr : B.fr = B.y) {E : En} {a : Act} {w : World} {F : Fp} {fn : Func} {q : PV} {ss : List SF} (hS : Sat B E a w F) (h0 : look E.r 0 = some (frame B)) (hr : ROk P E fn.results.toList ss) (hq : Tells ss q) :
    bodyPost P fn (RP B q) .ret a w := by
  obtain ⟨vs, h1, h2⟩ := hr.run hS
  have hf : (frame B).holds (Act.tau a) w (F 0) (U F) := hS.r 0 _ h0
  have hy : ∀ b, B.y b → U F b := fun b hb => ⟨0, (hf.1 b).2 (by rw [hfr]; exact hb)⟩
  refine bodyPost_ret (results_run h2) hS.df ⟨_, rfl, q.mono (Ev.less w hy) (hq _ _ _ _ h1), ?_⟩
  refine ⟨hS.ev.os, hS.ev.tape, hS.ev.output, hS.ev.size, fun k hk => ?_⟩
  by_cases e : B.y k
  · exact hf.2 k ((hf.1 k).2 (by rw [hfr]; exact e))
  · exact (hS.ev.block k hk e).1

theorem Tells.one {s : SF} {q : PV} (h : Ent s (.pv q)) : Tells [s] q := fun τ w y vs hs => by
  match vs, hs with
  | [v], hs => exact h τ w y v hs.1
theorem Tells.two {s1 s2 : SF} {q1 q2 : PV} (h1 : Ent s1 (.pv q1)) (h2 : Ent s2 (.pv q2)) : Tells [s1, s2] (.tup [q1, q2]) := fun τ w y vs hs => by
  match vs, hs with
  | [u, v], hs => exact ⟨[u, v], rfl, h1 τ w y u hs.1, h2 τ w y v hs.2.1, trivial⟩
theorem Tells.three {s1 s2 s3 : SF} {q1 q2 q3 : PV} (h1 : Ent s1 (.pv q1)) (h2 : Ent s2 (.pv q2)) (h3 : Ent s3 (.pv q3)) : Tells [s1, s2, s3] (.tup [q1, q2, q3]) := fun τ w y vs hs => by
  match vs, hs with
  | [u, v, x], hs => exact ⟨[u, v, x], rfl, h1 τ w y u hs.1, h2 τ w y v hs.2.1, h3 τ w y x hs.2.2.1, trivial⟩
theorem Ent.refl {s : SF} : Ent s s := fun _ _ _ _ h => h
theorem Ent.bool {b b' : Bool} (h : b = b') : Ent (.pv (.bool b)) (.pv (.bool b')) := by subst h; exact Ent.refl
theorem Ent.int {k : IntKind} {x x' : Int} (h : x = x') : Ent (.pv (.int k x)) (.pv (.int k x')) := by subst h; exact Ent.refl
theorem Ent.trans {s1 s2 s3 : SF} (h : Ent s1 s2) (k : Ent s2 s3) : Ent s1 s3 := fun τ w y v hs => k τ w y v (h τ w y v hs)

section
variable {P : Program} {Q : Exit → Act → World → Prop} {K : Act → World → Prop} {a : Act} {w : World}
theorem then_n (h : K a w) : Exit.then K Q .normal a w := h
theorem then_r (h : Q .ret a w) : Exit.then K Q .ret a w := h
theorem then_x {i : Nat} (h : Q (.exit i) a w) : Exit.then K Q (.exit i) a w := h
theorem block_n {i : Nat} (h : Q .normal a w) : Exit.inBlock i Q .normal a w := h
theorem block_r {i : Nat} (h : Q .ret a w) : Exit.inBlock i Q .ret a w := h
theorem block_x {i : Nat} (h : Q .normal a w) : Exit.inBlock i Q (.exit i) a w := by simp [Exit.inBlock, h]
theorem block_y {i j : Nat} (hne : j ≠ i) (h : Q (.exit j) a w) : Exit.inBlock i Q (.exit j) a w := by simp [Exit.inBlock, hne, h]

theorem cond_b {B : Base} {E : En} {F : Fp} {t : Nat} {β : Bool} {x y : Code} (hS : Sat B E a w F) (hl : look E.s t = some (.pv (.bool β)))
    (h1 : β = true → x.wp P Q a w) (h2 : β = false → y.wp P Q a w) : (Code.cond (.tmp t) x y).wp P Q a w := by
  have e : a.eval (.tmp t) = .bool β := hS.s t _ hl
  exact wp_cond_split e h1 h2

/-- A call of a function that changes nothing. -/
theorem o_callP {f : FuncId} {args : Array Operand} {tys : Array TypeId} {d : Option Nat} {ty : TypeId} {pos : String} {af : Array Edge} {g : Option (Nat × Bool)} {ps : List (Nat × SF)} {avs : List PV} {q : PV} {fn : Func}
    (hc : FnP P f avs q) (hf : P.funcs[f]? = some fn) (hb : fn.body.isSome = true) (hn : (fn.name == "runtime.NumGoroutine") = false)
    (ha : ∀ (a : Act) w y, Hps ps (Act.tau a) w y → ∃ vs : List Value, args.map a.eval = vs.toArray ∧ PVt avs vs w y) :
    OpC P ⟨d, .call { callee := .value (.func f), args := args, argTypes := tys }, ty, pos, af, g⟩ ⟨ps, [], .pv q, []⟩ := fun a w F K Q hw hp hr ht => by
  obtain ⟨vs, e, hvs⟩ := ha a w (U F) hp
  have hbn : fn.body ≠ none := by intro h; rw [h] at hb; cases hb
  have hn' : fn.name ≠ "runtime.NumGoroutine" := by intro h; rw [h] at hn; simp at hn
  have hrun : (execOp a.eval ⟨d, .call { callee := .value (.func f), args := args, argTypes := tys }, ty, pos, af, g⟩).run P w = .ok (.enter f vs.toArray) w := by
    have e2 : a.eval (.func f) = .func (.func f) #[] #[] := rfl
    simp [execOp, resolve, e, e2, Deferred.ofValue, invoke, callFunc, hf, hn', hbn]
  simp only [Oper.wp, hrun, Oper.upon]
  refine (hc w (U F) vs (fun b ⟨n, hn⟩ => hw.bd n b hn) hvs).mono ?_
  rintro e' w' ⟨v, rfl, hq, hbel⟩
  have hst : Stp [] w F w' F := ⟨hbel.os, hbel.tape, hbel.output, hbel.size, fun b hb _ => hbel.block b hb, fun _ _ => rfl, fun _ h => by cases h⟩
  exact ht v w' F ⟨hw.dis, fun n b hn => Nat.lt_of_lt_of_le (hw.bd n b hn) hbel.size⟩ hst hq (fun x hx => by cases hx)
theorem Args.nil : ∀ (a : Act) w y, Hps [] (Act.tau a) w y → ∃ vs : List Value, (#[] : Array Operand).map a.eval = vs.toArray ∧ PVt [] vs w y := fun a w y _ => ⟨[], by simp, trivial⟩
theorem Args.one {x : Operand} {ps : List (Nat × SF)} {p : PV} (h : Opd x ps (.pv p)) : ∀ (a : Act) w y, Hps ps (Act.tau a) w y → ∃ vs : List Value, (#[x] : Array Operand).map a.eval = vs.toArray ∧ PVt [p] vs w y :=
  fun a w y hp => ⟨[a.eval x], by simp, h a w y hp, trivial⟩
theorem Args.two {x1 x2 : Operand} {ps1 ps2 : List (Nat × SF)} {p1 p2 : PV} (h1 : Opd x1 ps1 (.pv p1)) (h2 : Opd x2 ps2 (.pv p2)) :
    ∀ (a : Act) w y, Hps (ps1 ++ ps2) (Act.tau a) w y → ∃ vs : List Value, (#[x1, x2] : Array Operand).map a.eval = vs.toArray ∧ PVt [p1, p2] vs w y :=
  fun a w y hp => ⟨[a.eval x1, a.eval x2], by simp, h1 a w y hp.left, h2 a w y hp.right, trivial⟩
theorem Args.three {x1 x2 x3 : Operand} {ps1 ps2 ps3 : List (Nat × SF)} {p1 p2 p3 : PV} (h1 : Opd x1 ps1 (.pv p1)) (h2 : Opd x2 ps2 (.pv p2)) (h3 : Opd x3 ps3 (.pv p3)) :
    ∀ (a : Act) w y, Hps (ps1 ++ (ps2 ++ ps3)) (Act.tau a) w y → ∃ vs : List Value, (#[x1, x2, x3] : Array Operand).map a.eval = vs.toArray ∧ PVt [p1, p2, p3] vs w y :=
  fun a w y hp => ⟨[a.eval x1, a.eval x2, a.eval x3], by simp, h1 a w y hp.left, h2 a w y hp.right.left, h3 a w y hp.right.right, trivial⟩
end
end Go.Gm
