/- Walks: maps. No condition. -/
import Derived.Test.YtpahapjcdldodaaDoorLibX
import Derived.MapKept
import Derived.WideKeyRuns

namespace Go.Gm
set_option linter.unusedVariables false
set_option linter.unusedSimpArgs false
set_option linter.unusedSectionVars false

structure MapE (κ : Type) where
  key : κ
  val : Int
  born : Nat
section
variable {κ : Type} [DecidableEq κ] {vk : IntKind}
/-- The place of a key. -/
def mIdx (k : κ) : List (MapE κ) → Option Nat
  | [] => none
  | e :: es => if k = e.key then some 0 else (mIdx k es).map (· + 1)
def mVal (k : κ) : List (MapE κ) → Int
  | [] => 0
  | e :: es => if k = e.key then e.val else mVal k es
/-- The value at a key is another one. -/
def mSet (k : κ) (v : Int) : List (MapE κ) → List (MapE κ)
  | [] => []
  | e :: es => if k = e.key then { e with val := v } :: es else e :: mSet k v es
def mEnc (vk : IntKind) (kv : κ → Value) (e : MapE κ) : MapEntry := { key := kv e.key, val := .int vk e.val, born := e.born }
/-- What the model asks of keys. -/
structure KeyOK (P : Program) (kt : TypeId) (ok : κ → Prop) (kv : κ → Value) : Prop where
  check : ∀ b k w, ok k → (Instr.checkKey b 10000 kt (kv k)).run P w = .ok () w
  find : ∀ (vk : IntKind) (es : List (MapE κ)) k w, ok k → (∀ e ∈ es, ok e.key) → (Instr.findKey kt (kv k) (es.map (mEnc vk kv))).run P w = .ok ((mIdx k es).map fun i => (i, .int vk (mVal k es))) w
  same : ∀ k, Instr.sameBits 10000 (kv k) (kv k) = true
def MWf (es : List (MapE κ)) (clock : Nat) : Prop := (es.map (·.born)).Nodup ∧ ∀ e ∈ es, e.born < clock
def MKeys (ok : κ → Prop) (es : List (MapE κ)) : Prop := ∀ e ∈ es, ok e.key
theorem MKeys.set {ok : κ → Prop} {k : κ} {v : Int} : ∀ {es : List (MapE κ)}, MKeys ok es → MKeys ok (mSet k v es)
  | [], h => h
  | e :: es, h => by
    unfold mSet
    split
    · intro x hx
      rcases List.mem_cons.1 hx with rfl | hx
      · exact h e (by simp)
      · exact h x (List.mem_cons_of_mem _ hx)
    · intro x hx
      rcases List.mem_cons.1 hx with rfl | hx
      · exact h _ (by simp)
      · exact MKeys.set (es := es) (fun z hz => h z (List.mem_cons_of_mem _ hz)) x hx
theorem MKeys.push {ok : κ → Prop} {k : κ} {es : List (MapE κ)} (h : MKeys ok es) (hk : ok k) (v : Int) (n : Nat) : MKeys ok (es ++ [⟨k, v, n⟩]) := by
  intro e he
  rcases List.mem_append.1 he with he | he
  · exact h e he
  · simp at he; subst he; exact hk
theorem mSet_born {k : κ} {v : Int} : ∀ es : List (MapE κ), (mSet k v es).map (·.born) = es.map (·.born)
  | [] => rfl
  | e :: es => by
    unfold mSet
    split
    · rfl
    · simp [mSet_born es]
theorem MWf.set {k : κ} {v : Int} {es : List (MapE κ)} {clock : Nat} (h : MWf es clock) : MWf (mSet k v es) clock := by
  refine ⟨by rw [mSet_born]; exact h.1, fun e he => ?_⟩
  have : e.born ∈ (mSet k v es).map (·.born) := List.mem_map.2 ⟨e, he, rfl⟩
  rw [mSet_born] at this
  obtain ⟨e', h1, h2⟩ := List.mem_map.1 this
  rw [← h2]; exact h.2 e' h1
theorem MWf.push {es : List (MapE κ)} {clock : Nat} (h : MWf es clock) (k : κ) (v : Int) : MWf (es ++ [⟨k, v, clock⟩]) (clock + 1) := by
  refine ⟨?_, fun e he => ?_⟩
  · rw [List.map_append, List.nodup_append]
    refine ⟨h.1, by simp, ?_⟩
    intro a ha b hb
    obtain ⟨e, h1, rfl⟩ := List.mem_map.1 ha
    simp at hb
    have := h.2 e h1
    omega
  · rcases List.mem_append.1 he with he | he
    · exact Nat.lt_succ_of_lt (h.2 e he)
    · simp at he; subst he; exact Nat.lt_succ_self _
/-- A value is put at a key. -/
def mPut (k : κ) (v : Int) (s : List (MapE κ) × Nat) : List (MapE κ) × Nat := if (mIdx k s.1).isSome then (mSet k v s.1, s.2) else (s.1 ++ [⟨k, v, s.2⟩], s.2 + 1)
end
section
variable {P : Program} {d : Option Nat} {t ty : TypeId} {pos : String} {af : Array Edge} {g : Option (Nat × Bool)} {x y z : Operand} {ps qs rs : List (Nat × SF)} {κ : Type} [DecidableEq κ] {ok : κ → Prop} {kv : κ → Value} {kt et : TypeId} {vk : IntKind}
/-- What x holds is the key. -/
def IsKeyOf (ok : κ → Prop) (kv : κ → Value) (x : Operand) (ps : List (Nat × SF)) (k : κ) : Prop := ∀ (a : Act) w yy, Hps ps (Act.tau a) w yy → a.eval x = kv k ∧ ok k
/-- The world behind a change of a map that is owned. -/
theorem map_step {w : World} {F : Fp} (hw : Wf F w) {b m : Nat} {o o' : Obj} (hb : w.heap[b]? = some o) (hf : ∀ x, F m x ↔ x = b) :
    Wf F { w with heap := w.heap.setIfInBounds b o' } ∧ Stp [m] w F { w with heap := w.heap.setIfInBounds b o' } F := by
  obtain ⟨h1, h2⟩ := Go.MapKept.heap_set (o' := o') hb
  refine ⟨⟨hw.dis, fun n x h => by simpa using hw.bd n x h⟩, ⟨rfl, rfl, rfl, by simp, fun x hx hn => h2 x (fun e => hn m (by simp) ((hf x).2 e)), fun _ _ => rfl, fun n hn x hx => .inl ⟨n, hn, hx⟩⟩⟩
/-- An entry is there. -/
def mEns (k : κ) (s : List (MapE κ) × Nat) : List (MapE κ) × Nat := if (mIdx k s.1).isSome then s else (s.1 ++ [⟨k, 0, s.2⟩], s.2 + 1)
def kvS {κ : Type} (enc : κ → List Int) (k : κ) : Value := .agg ((enc k).map fun n => Value.int .i64 n).toArray
theorem IsKeyOf.int {n : Int} {k : Int} (h : Opd x ps (.pv (.int .i64 n))) (e : n = k) : IsKeyOf (fun _ => True) (fun n : Int => Value.int .i64 n) x ps k := fun a w yy hp => by
  subst e
  exact ⟨(h a w yy hp).1, trivial⟩
theorem pvs_ints {w : World} {y : Ys} : ∀ {l : List Int} {vs : List Value}, PVs (l.map fun n => PV.int .i64 n) vs w y → vs = l.map (fun n => Value.int .i64 n) ∧ ∀ x ∈ l, inR .i64 x
  | [], [], _ => ⟨rfl, by simp⟩
  | [], _ :: _, h => h.elim
  | _ :: _, [], h => h.elim
  | n :: l, v :: vs, h => by
    obtain ⟨h1, h2⟩ := pvs_ints (l := l) h.2
    have h3 : v = .int .i64 n ∧ inR .i64 n := h.1.2
    exact ⟨by rw [h3.1, h1]; rfl, fun x hx => by rcases List.mem_cons.1 hx with rfl | hx; exact h3.2; exact h2 x hx⟩
theorem IsKeyOf.agg {enc : κ → List Int} {k : κ} {l : List PV} (h : Opd x ps (.pv (.agg l))) (e : l = (enc k).map fun n => PV.int .i64 n) : IsKeyOf (fun k => ∀ x ∈ enc k, inR .i64 x) (kvS enc) x ps k := fun a w yy hp => by
  subst e
  obtain ⟨vs, e1, hv⟩ := h a w yy hp
  obtain ⟨h1, h2⟩ := pvs_ints hv
  exact ⟨by rw [e1, h1]; rfl, h2⟩
end
section
variable {κ : Type} [DecidableEq κ]
def mGet (k : κ) : List (MapE κ) → Option Int
  | [] => none
  | e :: es => if k = e.key then some e.val else mGet k es
theorem mIdx_get (k : κ) : ∀ es : List (MapE κ), (mIdx k es).isSome = (mGet k es).isSome
  | [] => rfl
  | e :: es => by
    unfold mIdx mGet
    split
    · rfl
    · rw [Option.isSome_map, mIdx_get k es]
/-- Each key once. -/
def MNd (es : List (MapE κ)) : Prop := (es.map (·.key)).Nodup
theorem mGet_mem {k : κ} : ∀ {es : List (MapE κ)}, (mGet k es).isSome = true ↔ k ∈ es.map (·.key)
  | [] => by simp [mGet]
  | e :: es => by
    unfold mGet
    split
    · rename_i h; simp [h]
    · rename_i h
      rw [mGet_mem (es := es)]
      simp [h]
theorem mSet_keys {k : κ} {v : Int} : ∀ es : List (MapE κ), (mSet k v es).map (·.key) = es.map (·.key)
  | [] => rfl
  | e :: es => by
    unfold mSet
    split
    · rfl
    · simp [mSet_keys es]
theorem MNd.set {k : κ} {v : Int} {es : List (MapE κ)} (h : MNd es) : MNd (mSet k v es) := by unfold MNd; rw [mSet_keys]; exact h
theorem MNd.push {k : κ} {v : Int} {n : Nat} {es : List (MapE κ)} (h : MNd es) (hk : mIdx k es = none) : MNd (es ++ [⟨k, v, n⟩]) := by
  unfold MNd at *
  rw [List.map_append, List.nodup_append]
  refine ⟨h, by simp, ?_⟩
  intro a ha b hb
  simp at hb
  subst hb
  intro e
  subst e
  have := (mGet_mem (k := a) (es := es)).2 ha
  rw [← mIdx_get, hk] at this
  cases this
theorem MNd.put {k : κ} {v : Int} {s : List (MapE κ) × Nat} (h : MNd s.1) : MNd (mPut k v s).1 := by
  unfold mPut
  split
  · exact h.set
  · rename_i h'; exact h.push (by simpa using h')
theorem MNd.ens {k : κ} {s : List (MapE κ) × Nat} (h : MNd s.1) : MNd (mEns k s).1 := by
  unfold mEns
  split
  · exact h
  · rename_i h'; exact h.push (by simpa using h')
/-- A key goes. -/
def mDel (k : κ) : List (MapE κ) → List (MapE κ)
  | [] => []
  | e :: es => if k = e.key then es else e :: mDel k es
theorem mDel_sub {k : κ} : ∀ {es : List (MapE κ)} {e : MapE κ}, e ∈ mDel k es → e ∈ es
  | x :: es, e, h => by
    unfold mDel at h
    split at h
    · exact List.mem_cons_of_mem _ h
    · rcases List.mem_cons.1 h with rfl | h
      · simp
      · exact List.mem_cons_of_mem _ (mDel_sub h)
theorem mDel_sublist {k : κ} : ∀ es : List (MapE κ), (mDel k es).Sublist es
  | [] => List.Sublist.slnil
  | e :: es => by
    unfold mDel
    split
    · exact List.sublist_cons_self _ _
    · exact (mDel_sublist es).cons_cons _
theorem MNd.del {k : κ} {es : List (MapE κ)} (h : MNd es) : MNd (mDel k es) := by
  unfold MNd at *
  exact ((mDel_sublist es).map (fun e : MapE κ => e.key)).nodup h
theorem MWf.del {k : κ} {es : List (MapE κ)} {clock : Nat} (h : MWf es clock) : MWf (mDel k es) clock := ⟨((mDel_sublist es).map (fun e : MapE κ => e.born)).nodup h.1, fun e he => h.2 e (mDel_sub he)⟩
end
section
variable {P : Program} {d : Option Nat} {t ty : TypeId} {pos : String} {af : Array Edge} {g : Option (Nat × Bool)} {x y z : Operand} {ps qs rs : List (Nat × SF)} {κ : Type} [DecidableEq κ] {ok : κ → Prop} {kv : κ → Value} {kt et : TypeId} {vk : IntKind}
theorem erase_map {α β : Type} (f : α → β) : ∀ (l : List α) (i : Nat), (l.map f).eraseIdx i = (l.eraseIdx i).map f
  | [], _ => rfl
  | _ :: _, 0 => rfl
  | a :: l, i + 1 => by simp [erase_map f l i]
end
end Go.Gm
