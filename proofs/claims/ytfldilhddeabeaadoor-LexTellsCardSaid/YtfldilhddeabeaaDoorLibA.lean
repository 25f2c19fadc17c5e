/- A small logic over the kit's rules for code: what slots hold, what is owned, and one theorem for a region in whatever order. No condition. -/
import Derived.Test.YtfldilhddeabeaaDoorChecked
import Derived.WalkKit
namespace Go.Gm
set_option linter.unusedVariables false
set_option linter.unusedSimpArgs false

/-- A set of blocks. -/
abbrev Ys := Nat → Prop

/-- From (w, y) to (w', y'): what is not in y is as it was, and stays out of y'. -/
structure Ev (w : World) (y : Ys) (w' : World) (y' : Ys) : Prop where
  os : w'.os = w.os
  tape : w'.tape = w.tape
  output : w'.output = w.output
  size : w.heap.size ≤ w'.heap.size
  block : ∀ b, b < w.heap.size → ¬ y b → w'.heap[b]? = w.heap[b]? ∧ ¬ y' b

theorem Ev.refl (w : World) (y : Ys) : Ev w y w y := ⟨rfl, rfl, rfl, Nat.le_refl _, fun _ _ h => ⟨rfl, h⟩⟩
theorem Ev.trans {w1 w2 w3 : World} {y1 y2 y3 : Ys} (h : Ev w1 y1 w2 y2) (k : Ev w2 y2 w3 y3) : Ev w1 y1 w3 y3 :=
  ⟨k.os.trans h.os, k.tape.trans h.tape, k.output.trans h.output, Nat.le_trans h.size k.size, fun b hb hy => by
    have h1 := h.block b hb hy
    have h2 := k.block b (Nat.lt_of_lt_of_le hb h.size) h1.2
    exact ⟨h2.1.trans h1.1, h2.2⟩⟩
theorem Ev.less (w : World) {y y' : Ys} (h : ∀ b, y' b → y b) : Ev w y w y' := ⟨rfl, rfl, rfl, Nat.le_refl _, fun b _ hy => ⟨rfl, fun h' => hy (h b h')⟩⟩

/-- What can be said of a value, and stays true. -/
structure PV where
  p : Value → World → Ys → Prop
  mono : ∀ {v w y w' y'}, Ev w y w' y' → p v w y → p v w' y'

/-- What can be said of blocks that are owned. -/
structure HP where
  p : World → Ys → Ys → Prop
  st : ∀ {w f y w' y'}, Ev w y w' y' → (∀ b, f b → w'.heap[b]? = w.heap[b]?) → p w f y → p w' f y'

def PV.is (v : Value) : PV := ⟨fun u _ _ => u = v ∧ u.oneCell' = true, fun _ h => h⟩
def PV.any : PV := ⟨fun _ _ _ => True, fun _ h => h⟩
def inR (k : IntKind) (x : Int) : Prop := k.min ≤ x ∧ x ≤ k.max
def PV.int (k : IntKind) (x : Int) : PV := ⟨fun u _ _ => u = .int k x ∧ inR k x, fun _ h => h⟩
def PV.bool (b : Bool) : PV := ⟨fun u _ _ => u = .bool b, fun _ h => h⟩
def PV.str (s : ByteArray) : PV := ⟨fun u _ _ => u = .string s ∧ s.size ≤ maxLen, fun _ h => h⟩

/-- Cells one by one. -/
def PVs : List PV → List Value → World → Ys → Prop
  | [], [], _, _ => True
  | p :: ps, v :: vs, w, y => (v.oneCell' = true ∧ p.p v w y) ∧ PVs ps vs w y
  | _, _, _, _ => False
/-- Values one by one. -/
def PVt : List PV → List Value → World → Ys → Prop
  | [], [], _, _ => True
  | p :: ps, v :: vs, w, y => p.p v w y ∧ PVt ps vs w y
  | _, _, _, _ => False

theorem PVs.mono {w y w' y'} (h : Ev w y w' y') : ∀ {ps : List PV} {vs : List Value}, PVs ps vs w y → PVs ps vs w' y'
  | [], [], _ => trivial
  | p :: ps, v :: vs, hh => ⟨⟨hh.1.1, p.mono h hh.1.2⟩, PVs.mono h hh.2⟩
  | [], _ :: _, hh => hh.elim
  | _ :: _, [], hh => hh.elim
theorem PVt.mono {w y w' y'} (h : Ev w y w' y') : ∀ {ps : List PV} {vs : List Value}, PVt ps vs w y → PVt ps vs w' y'
  | [], [], _ => trivial
  | p :: ps, v :: vs, hh => ⟨p.mono h hh.1, PVt.mono h hh.2⟩
  | [], _ :: _, hh => hh.elim
  | _ :: _, [], hh => hh.elim

theorem PVs.len {w y} : ∀ {ps : List PV} {vs : List Value}, PVs ps vs w y → ps.length = vs.length
  | [], [], _ => rfl
  | p :: ps, v :: vs, hh => by simp [PVs.len hh.2]
  | [], _ :: _, hh => hh.elim
  | _ :: _, [], hh => hh.elim

theorem PVs.append {w y} : ∀ {ps qs : List PV} {us vs : List Value}, PVs ps us w y → PVs qs vs w y → PVs (ps ++ qs) (us ++ vs) w y
  | [], _, [], _, _, k => k
  | p :: ps, _, v :: us, _, hh, k => ⟨hh.1, PVs.append hh.2 k⟩
  | [], _, _ :: _, _, hh, _ => hh.elim
  | _ :: _, _, [], _, hh, _ => hh.elim

theorem PVs.split {w y} : ∀ {ps qs : List PV} {vs : List Value}, PVs (ps ++ qs) vs w y → ∃ us zs, vs = us ++ zs ∧ PVs ps us w y ∧ PVs qs zs w y
  | [], qs, vs, h => ⟨[], vs, rfl, trivial, h⟩
  | p :: ps, qs, v :: vs, h => by
    obtain ⟨us, zs, rfl, h1, h2⟩ := PVs.split (ps := ps) h.2
    exact ⟨v :: us, zs, rfl, ⟨h.1, h1⟩, h2⟩
  | p :: ps, qs, [], h => h.elim

def PV.agg (l : List PV) : PV := ⟨fun u w y => ∃ vs : List Value, u = .agg vs.toArray ∧ PVs l vs w y, fun h ⟨vs, e, k⟩ => ⟨vs, e, PVs.mono h k⟩⟩
def PV.tup (l : List PV) : PV := ⟨fun u w y => ∃ vs : List Value, u = .tuple vs.toArray ∧ PVt l vs w y, fun h ⟨vs, e, k⟩ => ⟨vs, e, PVt.mono h k⟩⟩

/-- Cells from an address on. -/
def cellsAt (w : World) (b off : Nat) : List Value → Prop
  | [] => True
  | v :: vs => w.cell? ⟨b, off, none⟩ = some v ∧ cellsAt w b (off + 1) vs

theorem cellsAt.block {w w' : World} {b : Nat} (h : w'.heap[b]? = w.heap[b]?) : ∀ {vs : List Value} {off : Nat}, cellsAt w b off vs → cellsAt w' b off vs
  | [], _, _ => trivial
  | v :: vs, off, k => ⟨(World.cell?_of_block (a := ⟨b, off, none⟩) h).trans k.1, cellsAt.block h k.2⟩

theorem cellsAt.lt {w : World} {b off : Nat} {v : Value} {vs : List Value} (h : cellsAt w b off (v :: vs)) : b < w.heap.size :=
  World.block_lt_of_cell? w ⟨b, off, none⟩ h.1

theorem cellsAt.append {w : World} {b : Nat} : ∀ {us vs : List Value} {off : Nat}, cellsAt w b off us → cellsAt w b (off + us.length) vs → cellsAt w b off (us ++ vs)
  | [], _, _, _, k => by simpa using k
  | u :: us, vs, off, h, k => ⟨h.1, cellsAt.append h.2 (by simpa [Nat.add_assoc, Nat.add_comm 1] using k)⟩

theorem cellsAt.left {w : World} {b : Nat} : ∀ {us vs : List Value} {off : Nat}, cellsAt w b off (us ++ vs) → cellsAt w b off us
  | [], _, _, _ => trivial
  | u :: us, vs, off, h => ⟨h.1, cellsAt.left h.2⟩

theorem cellsAt.right {w : World} {b : Nat} : ∀ {us vs : List Value} {off : Nat}, cellsAt w b off (us ++ vs) → cellsAt w b (off + us.length) vs
  | [], _, _, h => by simpa using h
  | u :: us, vs, off, h => by have := cellsAt.right h.2; simpa [Nat.add_assoc, Nat.add_comm 1] using this

theorem cellsAt.get {w : World} {b : Nat} : ∀ {vs : List Value} {off : Nat}, cellsAt w b off vs → ∀ j v, vs[j]? = some v → w.cell? ⟨b, off + j, none⟩ = some v
  | [], _, _, j, v, hj => by simp at hj
  | u :: us, off, h, 0, v, hj => by simp at hj; subst hj; exact h.1
  | u :: us, off, h, j + 1, v, hj => by
    have := cellsAt.get h.2 j v (by simpa using hj)
    rw [show off + (j + 1) = off + 1 + j by omega]; exact this

theorem cellsAt.mk {w : World} {b : Nat} : ∀ {vs : List Value} {off : Nat}, (∀ j v, vs[j]? = some v → w.cell? ⟨b, off + j, none⟩ = some v) → cellsAt w b off vs
  | [], _, _ => trivial
  | u :: us, off, h => ⟨by simpa using h 0 u rfl, cellsAt.mk fun j v hj => by
      have := h (j + 1) v (by simpa using hj)
      rw [show off + 1 + j = off + (j + 1) by omega]; exact this⟩

/-- A slice that is only read: its elements read as a list, by what each element's cells say. -/
def PV.sl {α : Type} (R : α → List PV) (l : List α) : PV :=
  ⟨fun u w y => ∃ a cap, u = .slice a l.length cap ∧ l.length ≤ cap ∧ cap ≤ maxLen ∧
      (l = [] ∨ ∃ b off vs, a = some ⟨b, off, none⟩ ∧ ¬ y b ∧ b < w.heap.size ∧ cellsAt w b off vs ∧ PVs (l.flatMap R) vs w y),
    fun {v w y w' y'} h ⟨a, cap, e, h1, h2, h3⟩ => ⟨a, cap, e, h1, h2, h3.imp id fun ⟨b, off, vs, ea, hy, hb, hc, hp⟩ =>
      ⟨b, off, vs, ea, (h.block b hb hy).2, Nat.lt_of_lt_of_le hb h.size, cellsAt.block (h.block b hb hy).1 hc, PVs.mono h hp⟩⟩⟩

/-- Who is meant: what a slot holds, or a value. -/
inductive Anc where
  | slot (i : Nat)
  | val (v : Value)

/-- Of a cell that is owned. -/
inductive CF where
  | pv (p : PV)
  | same (i : Nat)

/-- Of a slot. -/
inductive SF where
  | pv (p : PV)
  | adr (a : Anc) (k : Nat)
  | agg (l : List CF)
  | tup (l : List CF)
  | same (i : Nat)
  | when (c : Prop) (s : SF)

/-- Of blocks that are owned: a block of cells; or whatever else, told by its handle. -/
inductive RS where
  | pt (a : Anc) (T : TypeId) (cells : List CF)
  | ob (a : Anc) (h : Value → HP)

abbrev Tau := Nat → Value
def Anc.v (τ : Tau) : Anc → Value
  | .slot i => τ i
  | .val v => v
def shift (k : Nat) : Value → Value
  | .pointer (some a) => .pointer (some ⟨a.block, a.off + k, none⟩)
  | .slice (some a) _ _ => .pointer (some ⟨a.block, a.off + k, none⟩)
  | v => v
def CF.holds (τ : Tau) (w : World) (y : Ys) : CF → Value → Prop
  | .pv p, v => p.p v w y
  | .same i, v => v = τ i ∧ v.oneCell' = true
def CFs (τ : Tau) (w : World) (y : Ys) : List CF → List Value → Prop
  | [], [] => True
  | c :: cs, v :: vs => (v.oneCell' = true ∧ c.holds τ w y v) ∧ CFs τ w y cs vs
  | _, _ => False
def CFt (τ : Tau) (w : World) (y : Ys) : List CF → List Value → Prop
  | [], [] => True
  | c :: cs, v :: vs => c.holds τ w y v ∧ CFt τ w y cs vs
  | _, _ => False
def SF.holds (τ : Tau) (w : World) (y : Ys) : SF → Value → Prop
  | .pv p, v => p.p v w y
  | .adr a k, v => v = shift k (a.v τ)
  | .agg l, v => ∃ vs : List Value, v = .agg vs.toArray ∧ CFs τ w y l vs
  | .tup l, v => ∃ vs : List Value, v = .tuple vs.toArray ∧ CFt τ w y l vs
  | .same i, v => v = τ i ∧ v.oneCell' = true
  | .when c s, v => (c → s.holds τ w y v) ∧ (¬ c → v = undef)
def RS.holds (τ : Tau) (w : World) (f y : Ys) : RS → Prop
  | .pt a T cells => ∃ b vs, a.v τ = .pointer (some ⟨b, 0, none⟩) ∧ w.heap[b]? = some (.cells vs T (0, 0)) ∧ (∀ x, f x ↔ x = b) ∧ CFs τ w y cells vs.toList
  | .ob a h => (h (a.v τ)).p w f y

/-- The slots that a fact names. -/
def Anc.deps : Anc → List Nat
  | .slot i => [i]
  | .val _ => []
def CF.deps : CF → List Nat
  | .pv _ => []
  | .same i => [i]
def cdeps : List CF → List Nat
  | [] => []
  | c :: cs => c.deps ++ cdeps cs
def SF.deps : SF → List Nat
  | .pv _ => []
  | .adr a _ => a.deps
  | .agg l => cdeps l
  | .tup l => cdeps l
  | .same i => [i]
  | .when _ s => s.deps
def RS.deps : RS → List Nat
  | .pt a _ cells => a.deps ++ cdeps cells
  | .ob a _ => a.deps

theorem Anc.v_congr {τ τ' : Tau} : ∀ {a : Anc}, (∀ i ∈ a.deps, τ' i = τ i) → a.v τ' = a.v τ
  | .slot i, h => h i (by simp [Anc.deps])
  | .val v, _ => rfl
theorem CF.mono {τ τ' : Tau} {w y w' y'} (h : Ev w y w' y') : ∀ {c : CF} {v}, (∀ i ∈ c.deps, τ' i = τ i) → c.holds τ w y v → c.holds τ' w' y' v
  | .pv p, v, _, k => p.mono h k
  | .same i, v, hd, k => by simp only [CF.holds] at *; rw [hd i (by simp [CF.deps])]; exact k
theorem CFs.mono {τ τ' : Tau} {w y w' y'} (h : Ev w y w' y') : ∀ {cs : List CF} {vs}, (∀ i ∈ cdeps cs, τ' i = τ i) → CFs τ w y cs vs → CFs τ' w' y' cs vs
  | [], [], _, _ => trivial
  | c :: cs, v :: vs, hd, k => ⟨⟨k.1.1, CF.mono h (fun i hi => hd i (by simp [cdeps, hi])) k.1.2⟩, CFs.mono h (fun i hi => hd i (by simp [cdeps, hi])) k.2⟩
  | [], _ :: _, _, k => k.elim
  | _ :: _, [], _, k => k.elim
theorem CFt.mono {τ τ' : Tau} {w y w' y'} (h : Ev w y w' y') : ∀ {cs : List CF} {vs}, (∀ i ∈ cdeps cs, τ' i = τ i) → CFt τ w y cs vs → CFt τ' w' y' cs vs
  | [], [], _, _ => trivial
  | c :: cs, v :: vs, hd, k => ⟨CF.mono h (fun i hi => hd i (by simp [cdeps, hi])) k.1, CFt.mono h (fun i hi => hd i (by simp [cdeps, hi])) k.2⟩
  | [], _ :: _, _, k => k.elim
  | _ :: _, [], _, k => k.elim
theorem SF.mono {τ τ' : Tau} {w y w' y'} (h : Ev w y w' y') : ∀ {s : SF} {v}, (∀ i ∈ s.deps, τ' i = τ i) → s.holds τ w y v → s.holds τ' w' y' v
  | .pv p, v, _, k => p.mono h k
  | .adr a n, v, hd, k => by simp only [SF.holds] at *; rw [Anc.v_congr hd]; exact k
  | .agg l, v, hd, ⟨vs, e, k⟩ => ⟨vs, e, CFs.mono h hd k⟩
  | .tup l, v, hd, ⟨vs, e, k⟩ => ⟨vs, e, CFt.mono h hd k⟩
  | .same i, v, hd, k => by simp only [SF.holds] at *; rw [hd i (by simp [SF.deps])]; exact k
  | .when c s, v, hd, k => ⟨fun hc => SF.mono h (s := s) hd (k.1 hc), k.2⟩
theorem RS.mono {τ τ' : Tau} {w y w' y' f} (h : Ev w y w' y') (hf : ∀ b, f b → w'.heap[b]? = w.heap[b]?) : ∀ {r : RS}, (∀ i ∈ r.deps, τ' i = τ i) → r.holds τ w f y → r.holds τ' w' f y'
  | .pt a T cells, hd, ⟨b, vs, e, hb, hx, k⟩ => by
    refine ⟨b, vs, ?_, ?_, hx, CFs.mono h (fun i hi => hd i (by simp [RS.deps, hi])) k⟩
    · rw [Anc.v_congr (fun i hi => hd i (by simp [RS.deps, hi]))]; exact e
    · rw [hf b ((hx b).2 rfl)]; exact hb
  | .ob a g, hd, k => by
    have e : a.v τ' = a.v τ := Anc.v_congr hd
    simp only [RS.holds] at *
    rw [e]; exact (g _).st h hf k

/-- Slots for values: what a slot holds at the end is given a name. -/
def Anc.sub (ρ : Tau) : Anc → Anc
  | .slot i => .val (ρ i)
  | a => a
def CF.sub (ρ : Tau) : CF → CF
  | .same i => .pv (PV.is (ρ i))
  | c => c
def csub (ρ : Tau) : List CF → List CF
  | [] => []
  | c :: cs => c.sub ρ :: csub ρ cs
def SF.sub (ρ : Tau) : SF → SF
  | .adr a k => .adr (a.sub ρ) k
  | .agg l => .agg (csub ρ l)
  | .tup l => .tup (csub ρ l)
  | .same i => .pv (PV.is (ρ i))
  | .when c s => .when c (s.sub ρ)
  | s => s
def RS.sub (ρ : Tau) : RS → RS
  | .pt a T cells => .pt (a.sub ρ) T (csub ρ cells)
  | .ob a h => .ob (a.sub ρ) h
theorem Anc.sub_v (τ : Tau) : ∀ a : Anc, (a.sub τ).v τ = a.v τ
  | .slot _ => rfl
  | .val _ => rfl
theorem CF.sub_holds {τ : Tau} {w y} : ∀ {c : CF} {v}, c.holds τ w y v → (c.sub τ).holds τ w y v
  | .pv _, _, h => h
  | .same _, _, h => h
theorem csub_holds {τ : Tau} {w y} : ∀ {cs : List CF} {vs}, CFs τ w y cs vs → CFs τ w y (csub τ cs) vs
  | [], [], _ => trivial
  | c :: cs, v :: vs, k => ⟨⟨k.1.1, CF.sub_holds k.1.2⟩, csub_holds k.2⟩
  | [], _ :: _, k => k.elim
  | _ :: _, [], k => k.elim
theorem csub_holdt {τ : Tau} {w y} : ∀ {cs : List CF} {vs}, CFt τ w y cs vs → CFt τ w y (csub τ cs) vs
  | [], [], _ => trivial
  | c :: cs, v :: vs, k => ⟨CF.sub_holds k.1, csub_holdt k.2⟩
  | [], _ :: _, k => k.elim
  | _ :: _, [], k => k.elim
theorem SF.sub_holds {τ : Tau} {w y} : ∀ {s : SF} {v}, s.holds τ w y v → (s.sub τ).holds τ w y v
  | .pv _, _, h => h
  | .adr a k, v, h => by simp only [SF.holds, SF.sub, Anc.sub_v] at *; exact h
  | .agg l, v, ⟨vs, e, h⟩ => ⟨vs, e, csub_holds h⟩
  | .tup l, v, ⟨vs, e, h⟩ => ⟨vs, e, csub_holdt h⟩
  | .same _, _, h => h
  | .when c s, v, h => ⟨fun hc => SF.sub_holds (s := s) (h.1 hc), h.2⟩
theorem RS.sub_holds {τ : Tau} {w f y} : ∀ {r : RS}, r.holds τ w f y → (r.sub τ).holds τ w f y
  | .pt a T cells, ⟨b, vs, e, h1, h2, h3⟩ => ⟨b, vs, by rw [Anc.sub_v]; exact e, h1, h2, csub_holds h3⟩
  | .ob a h, k => by simp only [RS.holds, RS.sub, Anc.sub_v] at *; exact k
theorem Anc.sub_deps (ρ : Tau) (a : Anc) : (a.sub ρ).deps = [] := by cases a <;> rfl
theorem csub_deps (ρ : Tau) : ∀ cs : List CF, cdeps (csub ρ cs) = []
  | [] => rfl
  | c :: cs => by simp only [csub, cdeps, csub_deps ρ cs, List.append_nil]; cases c <;> rfl
theorem SF.sub_deps (ρ : Tau) : ∀ s : SF, (s.sub ρ).deps = []
  | .pv _ => rfl
  | .adr a k => Anc.sub_deps ρ a
  | .agg l => csub_deps ρ l
  | .tup l => csub_deps ρ l
  | .same _ => rfl
  | .when c s => SF.sub_deps ρ s
theorem RS.sub_deps (ρ : Tau) (r : RS) : (r.sub ρ).deps = [] := by cases r <;> simp [RS.sub, RS.deps, Anc.sub_deps, csub_deps]

def look {α : Type} : List (Nat × α) → Nat → Option α
  | [], _ => none
  | x :: l, i => match Nat.beq x.1 i with
    | true => some x.2
    | false => look l i

/-- What is known at a place of the code. -/
structure En where
  s : List (Nat × SF)
  r : List (Nat × RS)

abbrev Fp := Nat → Ys
def U (F : Fp) : Ys := fun b => ∃ n, F n b
structure Wf (F : Fp) (w : World) : Prop where
  dis : ∀ n m b, F n b → F m b → n = m
  bd : ∀ n b, F n b → b < w.heap.size
/-- A step that writes to the blocks of W alone. -/
structure Stp (W : List Nat) (w : World) (F : Fp) (w' : World) (F' : Fp) : Prop where
  os : w'.os = w.os
  tape : w'.tape = w.tape
  output : w'.output = w.output
  size : w.heap.size ≤ w'.heap.size
  keep : ∀ b, b < w.heap.size → (∀ n ∈ W, ¬ F n b) → w'.heap[b]? = w.heap[b]?
  fkeep : ∀ n, n ∉ W → F' n = F n
  fnew : ∀ n ∈ W, ∀ b, F' n b → (∃ m ∈ W, F m b) ∨ w.heap.size ≤ b

theorem Stp.refl (w : World) (F : Fp) : Stp [] w F w F := ⟨rfl, rfl, rfl, Nat.le_refl _, fun _ _ _ => rfl, fun _ _ => rfl, fun _ h => by cases h⟩
theorem Stp.ev {W w F w' F'} (h : Stp W w F w' F') : Ev w (U F) w' (U F') :=
  ⟨h.os, h.tape, h.output, h.size, fun b hb hy => ⟨h.keep b hb (fun n _ hn => hy ⟨n, hn⟩), fun ⟨n, hn⟩ => by
    by_cases hW : n ∈ W
    · rcases h.fnew n hW b hn with ⟨m, _, hm⟩ | h'
      · exact hy ⟨m, hm⟩
      · omega
    · rw [h.fkeep n hW] at hn; exact hy ⟨n, hn⟩⟩⟩
theorem Stp.same {W w F w' F'} (hw : Wf F w) (h : Stp W w F w' F') {n : Nat} (hn : n ∉ W) : ∀ b, F n b → w'.heap[b]? = w.heap[b]? :=
  fun b hb => h.keep b (hw.bd n b hb) (fun m hm hmb => hn (hw.dis n m b hb hmb ▸ hm))

def Act.tau (a : Act) : Tau := fun i => a.tmps.getD i undef
theorem Act.eval_tmp (a : Act) (i : Nat) : a.eval (.tmp i) = Act.tau a i := rfl
def upd (τ : Tau) (d : Option Nat) (v : Value) : Tau := fun i => if d = some i then v else τ i
theorem Act.tau_put (a : Act) (d : Option Nat) (v : Value) (h : ∀ i, d = some i → i < a.tmps.size) : Act.tau (a.put d v) = upd (Act.tau a) d v := by
  funext i
  cases d with
  | none => simp [Act.tau, Act.put, upd]
  | some d =>
    by_cases e : d = i
    · subst e; have := h d rfl; simp [Act.tau, Act.put, upd, this]
    · simp [Act.tau, Act.put, upd, e, Array.getElem?_setIfInBounds_ne e]
theorem Act.size_put (a : Act) (d : Option Nat) (v : Value) : (a.put d v).tmps.size = a.tmps.size := by cases d <;> simp [Act.put]
theorem Act.defers_put (a : Act) (d : Option Nat) (v : Value) : (a.put d v).defers = a.defers := by cases d <;> rfl

/-- The start that all is held against. -/
structure Base where
  w : World
  y : Ys
  fr : Ys
  n : Nat

structure Sat (B : Base) (E : En) (a : Act) (w : World) (F : Fp) : Prop where
  wf : Wf F w
  ev : Ev B.w B.y w (U F)
  n : a.tmps.size = B.n
  df : a.defers = []
  s : ∀ i s, look E.s i = some s → s.holds (Act.tau a) w (U F) (Act.tau a i)
  r : ∀ n r, look E.r n = some r → r.holds (Act.tau a) w (F n) (U F)
  em : ∀ n b, F n b → ∃ r, look E.r n = some r

end Go.Gm
