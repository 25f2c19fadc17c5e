/- Walks: maps. No condition. -/
import Derived.Test.YtfdjjfplhdpclaaLibX
import Derived.MapKept
import Derived.WideKeyRuns

namespace Go.Gm
set_option linter.unusedVariables false
set_option linter.unusedSimpArgs false
set_option linter.unusedSectionVars false

structure MapE (κ : Type) where
  key : κ
  val : Int
  born : Nat
section
variable {κ : Type} [DecidableEq κ] {vk : IntKind}
/-- The place of a key. -/
def mIdx (k : κ) : List (MapE κ) → Option Nat
  | [] => none
  | e :: es => if k = e.key then some 0 else (mIdx k es).map (· + 1)
def mVal (k : κ) : List (MapE κ) → Int
  | [] => 0
  | e :: es => if k = e.key then e.val else mVal k es
def mBorn (k : κ) : List (MapE κ) → Option Nat
  | [] => none
  | e :: es => if k = e.key then some e.born else mBorn k es
/-- The value at a key is another one. -/
def mSet (k : κ) (v : Int) : List (MapE κ) → List (MapE κ)
  | [] => []
  | e :: es => if k = e.key then { e with val := v } :: es else e :: mSet k v es
def mEnc (vk : IntKind) (kv : κ → Value) (e : MapE κ) : MapEntry := { key := kv e.key, val := .int vk e.val, born := e.born }
/-- What the model asks of keys. -/
structure KeyOK (P : Program) (kt : TypeId) (ok : κ → Prop) (kv : κ → Value) : Prop where
  check : ∀ b k w, ok k → (Instr.checkKey b 10000 kt (kv k)).run P w = .ok () w
  find : ∀ (vk : IntKind) (es : List (MapE κ)) k w, ok k → (∀ e ∈ es, ok e.key) → (Instr.findKey kt (kv k) (es.map (mEnc vk kv))).run P w = .ok ((mIdx k es).map fun i => (i, .int vk (mVal k es))) w
  same : ∀ k, Instr.sameBits 10000 (kv k) (kv k) = true
theorem mIdx_key {k : κ} : ∀ {es : List (MapE κ)} {i : Nat}, mIdx k es = some i → ∃ e, es[i]? = some e ∧ e.key = k ∧ e.val = mVal k es ∧ mBorn k es = some e.born
  | [], i, h => by cases h
  | e :: es, i, h => by
    unfold mIdx at h
    split at h
    · rename_i hk
      cases h
      exact ⟨e, rfl, hk.symm, by simp [mVal, hk], by simp [mBorn, hk]⟩
    · rename_i hk
      obtain ⟨j, hj, rfl⟩ := Option.map_eq_some_iff.1 h
      obtain ⟨e', h1, h2, h3, h4⟩ := mIdx_key hj
      exact ⟨e', by simpa using h1, h2, by simp [mVal, hk, h3], by simp [mBorn, hk, h4]⟩
theorem mIdx_none {k : κ} : ∀ {es : List (MapE κ)}, mIdx k es = none → mVal k es = 0 ∧ mBorn k es = none
  | [], _ => ⟨rfl, rfl⟩
  | e :: es, h => by
    unfold mIdx at h
    split at h
    · cases h
    · rename_i hk
      have := mIdx_none (Option.map_eq_none_iff.1 h)
      exact ⟨by simp [mVal, hk, this.1], by simp [mBorn, hk, this.2]⟩
theorem mSet_modify {k : κ} {v : Int} {kv : κ → Value} : ∀ {es : List (MapE κ)} {i : Nat}, mIdx k es = some i → ((es.map (mEnc vk kv)).modify i fun e => { e with key := kv k, val := .int vk v }) = (mSet k v es).map (mEnc vk kv)
  | [], i, h => by cases h
  | e :: es, i, h => by
    unfold mIdx at h
    split at h
    · rename_i hk
      cases h
      simp [mSet, hk, mEnc]
    · rename_i hk
      obtain ⟨j, hj, rfl⟩ := Option.map_eq_some_iff.1 h
      have := mSet_modify (v := v) (kv := kv) hj
      simp [mSet, hk, this]
theorem mVal_set {k k' : κ} {v : Int} : ∀ {es : List (MapE κ)}, mVal k' (mSet k v es) = if k' = k ∧ (mIdx k es).isSome then v else mVal k' es
  | [] => by simp [mSet, mVal, mIdx]
  | e :: es => by
    unfold mSet mIdx
    by_cases hk : k = e.key
    · subst hk
      by_cases h2 : k' = e.key
      · simp [mVal, h2]
      · simp [mVal, h2]
    · have ih := mVal_set (k := k) (k' := k') (v := v) (es := es)
      by_cases h2 : k' = e.key
      · have h3 : ¬ k' = k := fun h => hk (h.symm.trans h2)
        simp [mVal, h2, hk]
        intro h4
        exact absurd (h4.symm) (by simpa [h2] using hk) 
      · simp [mVal, h2, hk, ih]
def MWf (es : List (MapE κ)) (clock : Nat) : Prop := (es.map (·.born)).Nodup ∧ ∀ e ∈ es, e.born < clock
def MKeys (ok : κ → Prop) (es : List (MapE κ)) : Prop := ∀ e ∈ es, ok e.key
theorem MKeys.set {ok : κ → Prop} {k : κ} {v : Int} : ∀ {es : List (MapE κ)}, MKeys ok es → MKeys ok (mSet k v es)
  | [], h => h
  | e :: es, h => by
    unfold mSet
    split
    · intro x hx
      rcases List.mem_cons.1 hx with rfl | hx
      · exact h e (by simp)
      · exact h x (List.mem_cons_of_mem _ hx)
    · intro x hx
      rcases List.mem_cons.1 hx with rfl | hx
      · exact h _ (by simp)
      · exact MKeys.set (es := es) (fun z hz => h z (List.mem_cons_of_mem _ hz)) x hx
theorem MKeys.push {ok : κ → Prop} {k : κ} {es : List (MapE κ)} (h : MKeys ok es) (hk : ok k) (v : Int) (n : Nat) : MKeys ok (es ++ [⟨k, v, n⟩]) := by
  intro e he
  rcases List.mem_append.1 he with he | he
  · exact h e he
  · simp at he; subst he; exact hk
theorem mSet_born {k : κ} {v : Int} : ∀ es : List (MapE κ), (mSet k v es).map (·.born) = es.map (·.born)
  | [] => rfl
  | e :: es => by
    unfold mSet
    split
    · rfl
    · simp [mSet_born es]
theorem MWf.set {k : κ} {v : Int} {es : List (MapE κ)} {clock : Nat} (h : MWf es clock) : MWf (mSet k v es) clock := by
  refine ⟨by rw [mSet_born]; exact h.1, fun e he => ?_⟩
  have : e.born ∈ (mSet k v es).map (·.born) := List.mem_map.2 ⟨e, he, rfl⟩
  rw [mSet_born] at this
  obtain ⟨e', h1, h2⟩ := List.mem_map.1 this
  rw [← h2]; exact h.2 e' h1
theorem MWf.push {es : List (MapE κ)} {clock : Nat} (h : MWf es clock) (k : κ) (v : Int) : MWf (es ++ [⟨k, v, clock⟩]) (clock + 1) := by
  refine ⟨?_, fun e he => ?_⟩
  · rw [List.map_append, List.nodup_append]
    refine ⟨h.1, by simp, ?_⟩
    intro a ha b hb
    obtain ⟨e, h1, rfl⟩ := List.mem_map.1 ha
    simp at hb
    have := h.2 e h1
    omega
  · rcases List.mem_append.1 he with he | he
    · exact Nat.lt_succ_of_lt (h.2 e he)
    · simp at he; subst he; exact Nat.lt_succ_self _
theorem mIdx_born {k : κ} {b : Nat} : ∀ {es : List (MapE κ)}, (es.map (·.born)).Nodup → mBorn k es = some b → ∃ i, mIdx k es = some i ∧ es.findIdx? (fun e => decide (e.born = b)) = some i
  | [], _, h => by cases h
  | e :: es, hd, h => by
    unfold mBorn at h
    unfold mIdx
    split at h
    · rename_i hk
      cases h
      exact ⟨0, by rw [if_pos hk], by simp [List.findIdx?_cons]⟩
    · rename_i hk
      rw [List.map_cons, List.nodup_cons] at hd
      obtain ⟨i, h1, h2⟩ := mIdx_born hd.2 h
      refine ⟨i + 1, by rw [if_neg hk, h1]; rfl, ?_⟩
      have hne : ¬ e.born = b := by
        intro he
        obtain ⟨e', g1, _, _, g4⟩ := mIdx_key h1
        rw [h] at g4
        exact hd.1 (List.mem_map.2 ⟨e', List.mem_of_getElem? g1, by rw [he]; exact (Option.some.inj g4).symm⟩)
      rw [List.findIdx?_cons]
      simp [hne, h2]
theorem inR_zero (k : IntKind) : inR k 0 := by cases k <;> simp [inR, IntKind.min, IntKind.max, IntKind.signed, IntKind.bits]
/-- A map that is owned. -/
def mapH (vk : IntKind) (ok : κ → Prop) (kv : κ → Value) (es : List (MapE κ)) (clock : Nat) (v : Value) : HP :=
  ⟨fun w f y => ∃ b, v = .map (some b) ∧ w.heap[b]? = some (.map (es.map (mEnc vk kv)).toArray clock) ∧ ((∀ e ∈ es, inR vk e.val) ∧ MWf es clock ∧ MKeys ok es) ∧ ∀ x, f x ↔ x = b,
   fun {w f y w' y'} h hf ⟨b, e, hb, hr, hx⟩ => ⟨b, e, by rw [hf b ((hx b).2 rfl)]; exact hb, hr, hx⟩⟩
theorem mVal_range {k : κ} : ∀ {es : List (MapE κ)}, (∀ e ∈ es, inR vk e.val) → inR vk (mVal k es)
  | [], _ => by simp only [mVal]; exact inR_zero vk
  | e :: es, h => by
    unfold mVal
    split
    · exact h e (by simp)
    · exact mVal_range fun x hx => h x (List.mem_cons_of_mem _ hx)
theorem mSet_range {k : κ} {v : Int} (hv : inR vk v) : ∀ {es : List (MapE κ)}, (∀ e ∈ es, inR vk e.val) → ∀ e ∈ mSet k v es, inR vk e.val
  | [], _, e, he => by cases he
  | x :: es, h, e, he => by
    unfold mSet at he
    split at he
    · rcases List.mem_cons.1 he with rfl | he
      · exact hv
      · exact h e (List.mem_cons_of_mem _ he)
    · rcases List.mem_cons.1 he with rfl | he
      · exact h _ (by simp)
      · exact mSet_range hv (fun z hz => h z (List.mem_cons_of_mem _ hz)) e he
/-- A value is put at a key. -/
def mPut (k : κ) (v : Int) (s : List (MapE κ) × Nat) : List (MapE κ) × Nat := if (mIdx k s.1).isSome then (mSet k v s.1, s.2) else (s.1 ++ [⟨k, v, s.2⟩], s.2 + 1)
theorem mVal_put {k k' : κ} {v : Int} {s : List (MapE κ) × Nat} : mVal k' (mPut k v s).1 = if k' = k then v else mVal k' s.1 := by
  unfold mPut
  split
  · rename_i h
    rw [mVal_set]
    simp [h]
  · rename_i h
    have hn : mIdx k s.1 = none := by simpa using h
    have key : ∀ es : List (MapE κ), mIdx k es = none → mVal k' (es ++ [⟨k, v, s.2⟩]) = if k' = k then v else mVal k' es := by
      intro es
      induction es with
      | nil => intro _; simp [mVal]
      | cons e es ih =>
        intro hn
        unfold mIdx at hn
        split at hn
        · cases hn
        · rename_i hk
          have := ih (Option.map_eq_none_iff.1 hn)
          rw [List.cons_append, mVal, mVal, this]
          by_cases h2 : k' = e.key
          · have : ¬ k' = k := fun h => hk (h.symm.trans h2)
            rw [if_pos h2, if_neg this, if_pos h2]
          · rw [if_neg h2, if_neg h2]
    exact key _ hn
theorem mPut_range {k : κ} {v : Int} (hv : inR vk v) {s : List (MapE κ) × Nat} (h : ∀ e ∈ s.1, inR vk e.val) : ∀ e ∈ (mPut k v s).1, inR vk e.val := by
  unfold mPut
  split
  · exact mSet_range hv h
  · intro e he
    rcases List.mem_append.1 he with he | he
    · exact h e he
    · simp at he; subst he; exact hv
end
section
variable {P : Program} {d : Option Nat} {t ty : TypeId} {pos : String} {af : Array Edge} {g : Option (Nat × Bool)} {x y z : Operand} {ps qs rs : List (Nat × SF)} {κ : Type} [DecidableEq κ] {ok : κ → Prop} {kv : κ → Value} {kt et : TypeId} {vk : IntKind}
/-- What x holds is the key. -/
def IsKeyOf (ok : κ → Prop) (kv : κ → Value) (x : Operand) (ps : List (Nat × SF)) (k : κ) : Prop := ∀ (a : Act) w yy, Hps ps (Act.tau a) w yy → a.eval x = kv k ∧ ok k
theorem o_makeMap {d' : Nat} (m : Nat) : OpC P ⟨some d', .makeMap t none, ty, pos, af, g⟩ ⟨[], [], .same d', [(m, .ob (.slot d') (mapH vk ok kv [] 0))]⟩ := fun a w F K Q hw hp hr ht => by
  have hrun : (execOp a.eval ⟨some d', .makeMap t none, ty, pos, af, g⟩).run P w = .ok (.value (.map (some w.heap.size))) (w.alloc (.map #[] 0)) := by
    simp [execOp, Instr.makeMap, run_newObj_alloc]
  obtain ⟨g1, g2⟩ := new_block hw m (.map #[] 0)
  simp only [Oper.wp, hrun, Oper.upon]
  refine ht _ _ _ g1 g2 ⟨by simp [upd], rfl⟩ ?_
  intro q hq
  simp only [List.mem_singleton] at hq
  subst hq
  exact ⟨w.heap.size, by simp [Anc.v, upd], by simpa using heap_alloc_new w (.map #[] 0), ⟨by simp, by simp [MWf], by simp [MKeys]⟩, fun b => by simp⟩
theorem zero_int (hz : (P.info? et).map (·.zero) = some (some (.int vk 0))) (w : World) : (zeroValue et).run P w = .ok (.int vk 0) w := by
  obtain ⟨i, h1, h2⟩ := Option.map_eq_some_iff.1 hz
  simp [zeroValue, typeInfo, h1, h2]
theorem o_lookup {es : List (MapE κ)} {clock : Nat} {an : Anc} {k : κ} (m : Nat) (hu : P.underlying t = some (.map kt et)) (hk : KeyOK P kt ok kv) (hz : (P.info? et).map (·.zero) = some (some (.int vk 0))) (hx : IsAnc x ps an) (hy : IsKeyOf ok kv y qs k) :
    OpC P ⟨d, .lookup t x y false, ty, pos, af, g⟩ ⟨ps ++ qs, [(m, .ob an (mapH vk ok kv es clock))], .pv (.int vk (mVal k es)), []⟩ :=
  OpC.read fun act w F hp hr => by
    obtain ⟨b, e1, hb, hrg, hf⟩ := hr (m, .ob an (mapH vk ok kv es clock)) (by simp)
    have ex : act.eval x = .map (some b) := by rw [← e1]; exact hx act w _ hp.left
    obtain ⟨ey, hok⟩ := hy act w _ hp.right
    refine ⟨.int vk (mVal k es), ?_, fun _ _ => ⟨rfl, mVal_range hrg.1⟩⟩
    have h1 := hk.find vk es k w hok hrg.2.2
    cases hi : mIdx k es with
    | some i =>
      rw [hi] at h1
      simp [execOp, ex, ey, Instr.lookup, run_underlying hu, Go.MapKept.run_getObj_map hb, hk.check _ _ _ hok, h1]
    | none =>
      rw [hi] at h1
      rw [(mIdx_none hi).1]
      simp [execOp, ex, ey, Instr.lookup, run_underlying hu, Go.MapKept.run_getObj_map hb, hk.check _ _ _ hok, h1, zero_int hz]
/-- The world behind a change of a map that is owned. -/
theorem map_step {w : World} {F : Fp} (hw : Wf F w) {b m : Nat} {o o' : Obj} (hb : w.heap[b]? = some o) (hf : ∀ x, F m x ↔ x = b) :
    Wf F { w with heap := w.heap.setIfInBounds b o' } ∧ Stp [m] w F { w with heap := w.heap.setIfInBounds b o' } F := by
  obtain ⟨h1, h2⟩ := Go.MapKept.heap_set (o' := o') hb
  refine ⟨⟨hw.dis, fun n x h => by simpa using hw.bd n x h⟩, ⟨rfl, rfl, rfl, by simp, fun x hx hn => h2 x (fun e => hn m (by simp) ((hf x).2 e)), fun _ _ => rfl, fun n hn x hx => .inl ⟨n, hn, hx⟩⟩⟩
theorem o_mapUpdate {es : List (MapE κ)} {clock : Nat} {an : Anc} {k : κ} {v : Int} (m : Nat) (hu : P.underlying t = some (.map kt et)) (hk : KeyOK P kt ok kv) (hx : IsAnc x ps an) (hy : IsKeyOf ok kv y qs k) (hv : Opd z rs (.pv (.int vk v))) :
    OpC P ⟨none, .mapUpdate t x y z, ty, pos, af, g⟩ ⟨ps ++ (qs ++ rs), [(m, .ob an (mapH vk ok kv es clock))], .pv .any, [(m, .ob an (mapH vk ok kv (mPut k v (es, clock)).1 (mPut k v (es, clock)).2))]⟩ := fun act w F K Q hw hp hr ht => by
  obtain ⟨b, e1, hb, hrg, hf⟩ := hr (m, .ob an (mapH vk ok kv es clock)) (by simp)
  have ex : act.eval x = .map (some b) := by rw [← e1]; exact hx act w _ hp.left
  obtain ⟨ey, hok⟩ := hy act w _ hp.right.left
  obtain ⟨ez, hvr⟩ := hv act w _ hp.right.right
  have h1 := hk.find vk es k w hok hrg.2.2
  have hrun : ∃ o', (execOp act.eval ⟨none, .mapUpdate t x y z, ty, pos, af, g⟩).run P w = .ok .skip { w with heap := w.heap.setIfInBounds b o' } ∧ o' = .map ((mPut k v (es, clock)).1.map (mEnc vk kv)).toArray (mPut k v (es, clock)).2 := by
    cases hi : mIdx k es with
    | some i =>
      rw [hi] at h1
      obtain ⟨e, g1, g2, g3, _⟩ := mIdx_key hi
      have hold : ((((es.map (mEnc vk kv)).toArray[i]?).map (·.key)).getD (kv k)) = kv k := by simp [g1, mEnc, g2]
      refine ⟨_, ?_, rfl⟩
      have hm : (mPut k v (es, clock)) = (mSet k v es, clock) := by unfold mPut; simp [hi]
      rw [hm]
      have hmod : (es.map (mEnc vk kv)).toArray.modify i (fun e => { e with key := kv k, val := .int vk v }) = ((mSet k v es).map (mEnc vk kv)).toArray := by
        rw [← mSet_modify (kv := kv) (v := v) hi]
        simp
      simp only [execOp, ex, ey, ez, Instr.mapUpdate, Sem.run_bind, run_underlying hu, Result.andThen_ok, Go.MapKept.run_getObj_map hb, hk.check _ _ _ hok, h1, Option.map_some, hold, Instr.keyThatStays, hk.same, if_true, Sem.run_pure, Go.MapKept.run_setObj_map _ hb, hmod]
    | none =>
      rw [hi] at h1
      refine ⟨_, ?_, rfl⟩
      have hm : (mPut k v (es, clock)) = (es ++ [⟨k, v, clock⟩], clock + 1) := by unfold mPut; simp [hi]
      rw [hm]
      simp only [execOp, ex, ey, ez, Instr.mapUpdate, Sem.run_bind, run_underlying hu, Result.andThen_ok, Go.MapKept.run_getObj_map hb, hk.check _ _ _ hok, h1, Option.map_none, Sem.run_pure, Go.MapKept.run_setObj_map _ hb]
      simp [mEnc]
  obtain ⟨o', hrun, ho⟩ := hrun
  obtain ⟨g1, g2⟩ := map_step (o' := o') hw hb hf
  simp only [Oper.wp, hrun, Oper.upon]
  refine ht _ _ F g1 g2 trivial ?_
  intro q hq
  simp only [List.mem_singleton] at hq
  subst hq
  exact ⟨b, e1, by rw [(Go.MapKept.heap_set (o' := o') hb).1, ho], ⟨mPut_range hvr (s := (es, clock)) hrg.1, by
    unfold mPut
    split
    · exact ⟨hrg.2.1.set, hrg.2.2.set⟩
    · exact ⟨hrg.2.1.push k v, hrg.2.2.push hok v _⟩⟩, hf⟩
/-- An entry is there. -/
def mEns (k : κ) (s : List (MapE κ) × Nat) : List (MapE κ) × Nat := if (mIdx k s.1).isSome then s else (s.1 ++ [⟨k, 0, s.2⟩], s.2 + 1)
def mStamp (k : κ) (s : List (MapE κ) × Nat) : Nat := (mBorn k s.1).getD s.2
theorem o_mapEntry {d' : Nat} {es : List (MapE κ)} {clock : Nat} {an : Anc} {k : κ} (m : Nat) (hu : P.underlying t = some (.map kt et)) (hk : KeyOK P kt ok kv) (hz : (P.info? et).map (·.zero) = some (some (.int vk 0))) (hx : IsAnc x ps an) (hy : IsKeyOf ok kv y qs k) (ha : ∀ τ v, an.v (upd τ (some d') v) = an.v τ) :
    OpC P ⟨some d', .mapEntry t x y, ty, pos, af, g⟩ ⟨ps ++ qs, [(m, .ob an (mapH vk ok kv es clock))], .pv (.tup [.int vk (mVal k es), .is (.int .i64 (mStamp k (es, clock) : Nat))]), [(m, .ob an (mapH vk ok kv (mEns k (es, clock)).1 (mEns k (es, clock)).2))]⟩ := fun act w F K Q hw hp hr ht => by
  obtain ⟨b, e1, hb, hrg, hf⟩ := hr (m, .ob an (mapH vk ok kv es clock)) (by simp)
  have ex : act.eval x = .map (some b) := by rw [← e1]; exact hx act w _ hp.left
  obtain ⟨ey, hok⟩ := hy act w _ hp.right
  have h1 := hk.find vk es k w hok hrg.2.2
  have hrun : ∃ o', (execOp act.eval ⟨some d', .mapEntry t x y, ty, pos, af, g⟩).run P w = .ok (.value (.tuple #[.int vk (mVal k es), .int .i64 (mStamp k (es, clock) : Nat)])) { w with heap := w.heap.setIfInBounds b o' } ∧ o' = .map ((mEns k (es, clock)).1.map (mEnc vk kv)).toArray (mEns k (es, clock)).2 := by
    cases hi : mIdx k es with
    | some i =>
      rw [hi] at h1
      obtain ⟨e, g1, g2, g3, g4⟩ := mIdx_key hi
      have hold : ((((es.map (mEnc vk kv)).toArray[i]?).map (·.key)).getD (kv k)) = kv k := by simp [g1, mEnc, g2]
      have hborn : ((((es.map (mEnc vk kv)).toArray[i]?).map fun x => ((x.born : Nat) : Int)).getD 0) = (mStamp k (es, clock) : Nat) := by simp [g1, mEnc, mStamp, g4]
      refine ⟨_, ?_, rfl⟩
      have hm : (mEns k (es, clock)) = (es, clock) := by unfold mEns; simp [hi]
      rw [hm]
      have hmod : (es.map (mEnc vk kv)).toArray.modify i (fun e => { e with key := kv k }) = (es.map (mEnc vk kv)).toArray := by
        apply Array.ext
        · simp
        · intro j hj1 hj2
          rw [Array.getElem_modify]
          split
          · rename_i hij
            subst hij
            have : es[i]? = some e := g1
            have hlt : i < es.length := (List.getElem?_eq_some_iff.1 this).1
            have he : es[i] = e := (List.getElem?_eq_some_iff.1 this).2
            simp [mEnc, he, g2]
          · rfl
      simp only [execOp, ex, ey, Instr.mapEntry, Sem.run_bind, run_underlying hu, Result.andThen_ok, Go.MapKept.run_getObj_map hb, hk.check _ _ _ hok, h1, Option.map_some, hold, Instr.keyThatStays, hk.same, if_true, Sem.run_pure, Go.MapKept.run_setObj_map _ hb, hmod, goInt, Option.map_map, Function.comp_def]
      simp [g1, mEnc, mStamp, g4]
    | none =>
      rw [hi] at h1
      have h2 := mIdx_none hi
      refine ⟨_, ?_, rfl⟩
      have hm : (mEns k (es, clock)) = (es ++ [⟨k, 0, clock⟩], clock + 1) := by unfold mEns; simp [hi]
      rw [hm]
      simp only [execOp, ex, ey, Instr.mapEntry, Sem.run_bind, run_underlying hu, Result.andThen_ok, Go.MapKept.run_getObj_map hb, hk.check _ _ _ hok, h1, Option.map_none, Sem.run_pure, zero_int hz, Go.MapKept.run_setObj_map _ hb]
      simp [mEnc, mStamp, h2.1, h2.2, goInt]
  obtain ⟨o', hrun, ho⟩ := hrun
  obtain ⟨g1, g2⟩ := map_step (o' := o') hw hb hf
  simp only [Oper.wp, hrun, Oper.upon]
  refine ht _ _ F g1 g2 ⟨[_, _], rfl, ⟨rfl, mVal_range hrg.1⟩, ⟨rfl, rfl⟩, trivial⟩ ?_
  intro q hq
  simp only [List.mem_singleton] at hq
  subst hq
  have ea : an.v (upd (Act.tau act) (some d') (.tuple #[.int vk (mVal k es), .int .i64 (mStamp k (es, clock) : Nat)])) = an.v (Act.tau act) := ha _ _
  refine ⟨b, by rw [ea]; exact e1, by rw [(Go.MapKept.heap_set (o' := o') hb).1, ho], ⟨?_, ?_⟩, hf⟩
  · unfold mEns
    split
    · exact hrg.1
    · intro e he
      rcases List.mem_append.1 he with he | he
      · exact hrg.1 e he
      · simp at he; subst he; exact inR_zero vk
  · unfold mEns
    split
    · exact hrg.2
    · exact ⟨hrg.2.1.push k 0, hrg.2.2.push hok 0 _⟩
theorem mSet_modify2 {k : κ} {v : Int} : ∀ {es : List (MapE κ)} {i : Nat}, mIdx k es = some i → ((es.map (mEnc vk kv)).modify i fun e => { e with val := .int vk v }) = (mSet k v es).map (mEnc vk kv)
  | [], i, h => by cases h
  | e :: es, i, h => by
    unfold mIdx at h
    split at h
    · rename_i hk
      cases h
      simp [mSet, hk, mEnc]
    · rename_i hk
      obtain ⟨j, hj, rfl⟩ := Option.map_eq_some_iff.1 h
      have := mSet_modify2 (v := v) hj
      simp [mSet, hk, this]
theorem o_entryStore {es : List (MapE κ)} {clock : Nat} {an : Anc} {k : κ} {v : Int} {b9 : Nat} (m : Nat) (hb9 : mBorn k es = some b9) (hx : IsAnc x ps an) (hy : Opd y qs (.pv (.is (.int .i64 (b9 : Nat))))) (hv : Opd z rs (.pv (.int vk v))) :
    OpC P ⟨none, .entryStore t x y z, ty, pos, af, g⟩ ⟨ps ++ (qs ++ rs), [(m, .ob an (mapH vk ok kv es clock))], .pv .any, [(m, .ob an (mapH vk ok kv (mSet k v es) clock))]⟩ := fun act w F K Q hw hp hr ht => by
  obtain ⟨b, e1, hb, hrg, hf⟩ := hr (m, .ob an (mapH vk ok kv es clock)) (by simp)
  have ex : act.eval x = .map (some b) := by rw [← e1]; exact hx act w _ hp.left
  have ey : act.eval y = .int .i64 (b9 : Nat) := (hy act w _ hp.right.left).1
  obtain ⟨ez, hvr⟩ := hv act w _ hp.right.right
  obtain ⟨i, h1, h2⟩ := mIdx_born hrg.2.1.1 hb9
  have hfi : (es.map (mEnc vk kv)).toArray.findIdx? (fun e => (e.born : Int) == ((b9 : Nat) : Int)) = some i := by
    have hpp : (fun x : MapE κ => ((x.born : Int) == ((b9 : Nat) : Int))) = fun e => decide (e.born = b9) := by
      funext e
      rw [Bool.eq_iff_iff, beq_iff_eq, decide_eq_true_eq]
      omega
    rw [← h2, ← hpp]
    simp [List.findIdx?_map, Function.comp_def, mEnc]
  have hmod : (es.map (mEnc vk kv)).toArray.modify i (fun e => { e with val := .int vk v }) = ((mSet k v es).map (mEnc vk kv)).toArray := by
    rw [← mSet_modify2 (kv := kv) (v := v) h1]
    simp
  have hrun : (execOp act.eval ⟨none, .entryStore t x y z, ty, pos, af, g⟩).run P w = .ok .skip { w with heap := w.heap.setIfInBounds b (.map ((mSet k v es).map (mEnc vk kv)).toArray clock) } := by
    simp only [execOp, ex, ey, ez, Instr.entryStore, Sem.run_bind, Result.andThen_ok, Go.MapKept.run_getObj_map hb, asInt, asIntOf, Sem.run_pure, hfi, Go.MapKept.run_setObj_map _ hb, hmod]
  obtain ⟨g1, g2⟩ := map_step (o' := .map ((mSet k v es).map (mEnc vk kv)).toArray clock) hw hb hf
  simp only [Oper.wp, hrun, Oper.upon]
  refine ht _ _ F g1 g2 trivial ?_
  intro q hq
  simp only [List.mem_singleton] at hq
  subst hq
  exact ⟨b, e1, (Go.MapKept.heap_set (o' := .map ((mSet k v es).map (mEnc vk kv)).toArray clock) hb).1, ⟨mSet_range hvr hrg.1, hrg.2.1.set, hrg.2.2.set⟩, hf⟩
/-- Integers as keys. -/
theorem key_int {kt : TypeId} (hk : P.underlying kt = some (.int .i64)) : KeyOK P kt (fun _ => True) (fun n : Int => Value.int .i64 n) where
  check := fun b k w _ => Go.MapKept.run_checkKey hk (by simp [Go.MapKept.IsKey]) b 9999
  find := fun vk es k w _ _ => by
    have key : ∀ (es : List (MapE Int)) (j : Nat), Instr.findNow (.int .i64) (.int .i64 k) (es.map (mEnc vk fun n : Int => Value.int .i64 n)) j = some ((mIdx k es).map fun i => (i + j, .int vk (mVal k es))) := by
      intro es
      induction es with
      | nil => intro j; rfl
      | cons e es ih =>
        intro j
        rw [List.map_cons]
        unfold Instr.findNow
        by_cases h : k = e.key
        · simp [mEnc, Instr.sameNow, h, mIdx, mVal]
        · have hbq : (k == e.key) = false := by simpa using h
          simp [mEnc, Instr.sameNow, h, hbq, mIdx, mVal, ih (j + 1)]
          cases hm : mIdx k es with
          | none => rfl
          | some i => simp; omega
    exact Go.MapKept.run_findKey hk (by rw [key es 0]; simp)
  same := fun k => by simp [Instr.sameBits]
def kvS {κ : Type} (enc : κ → List Int) (k : κ) : Value := .agg ((enc k).map fun n => Value.int .i64 n).toArray
theorem flat_ints_check {w : World} (em : Bool) (n : Nat) {xs : Array Value} : ∀ {fs : List Field} {k : Nat} {l : List Int} {m : Nat}, flatFs P fs k (List.replicate m true) = true → xs.toList.drop k = (l.map fun n => Value.int .i64 n) → l.length = m →
    (forIn fs PUnit.unit fun f _ => if f.name ≠ "_" then (do let z ← part f.type xs f.offset; Instr.checkKey em (n + 1) f.type z; pure (ForInStep.yield PUnit.unit)) else pure (ForInStep.yield PUnit.unit) : Sem PUnit).run P w = .ok PUnit.unit w
  | [], k, l, m, _, _, _ => by simp
  | f :: fs, k, [], 0, h, _, _ => by simp [flatFs] at h
  | f :: fs, k, x :: l, m + 1, h, hx, hl => by
    rw [List.replicate_succ] at h
    simp only [flatFs, Bool.and_eq_true] at h
    obtain ⟨⟨⟨h1, h2⟩, h3⟩, h4⟩ := h
    have hk : f.offset = k := Nat.eq_of_beq_eq_true h2
    have hn : f.name ≠ "_" := by simpa using h1
    have hag : P.aggB f.type = some false := by
      unfold Program.aggB
      cases hu : P.underlying f.type with
      | none => rw [hu] at h3; cases h3
      | some u => rw [hu] at h3; cases u <;> first | rfl | cases h3
    have hp := part_run (w := w) (v := .int .i64 x) (vs := l.map fun n => Value.int .i64 n) hk hag (by simpa using hx)
    have hc : (Instr.checkKey em (n + 1) f.type (.int .i64 x)).run P w = .ok () w := by
      cases hu : P.underlying f.type with
      | none => rw [hu] at h3; cases h3
      | some u =>
        rw [hu] at h3
        rw [Instr.checkKey]
        cases u with
        | int kk => simp [run_underlying hu]
        | bool => cases h3
        | _ => cases h3
    have ih := flat_ints_check (w := w) em n (fs := fs) (k := k + 1) (l := l) (m := m) h4 (drop_next (by simpa using hx)) (by simpa using hl)
    simp only [List.forIn_cons, Sem.run_bind, hn, ne_eq, not_false_eq_true, if_true, Result.andThen_ok, hp, hc, Sem.run_pure]
    exact ih
theorem same_ints (l : List Int) (n : Nat) : Instr.sameBits (n + 1) (.agg (l.map fun n => Value.int .i64 n).toArray) (.agg (l.map fun n => Value.int .i64 n).toArray) = true := by
  unfold Instr.sameBits
  simp
  intro a b h
  have key : ∀ (l : List Int), (a, b) ∈ (l.map fun n => Value.int .i64 n).zip (l.map fun n => Value.int .i64 n) → ∃ x, a = .int .i64 x ∧ b = .int .i64 x := by
    intro l
    induction l with
    | nil => intro h; simp at h
    | cons x l ih =>
      intro h
      simp at h
      rcases h with ⟨rfl, rfl⟩ | h
      · exact ⟨x, rfl, rfl⟩
      · exact ih (by simpa using h)
  obtain ⟨x, rfl, rfl⟩ := key l (by simpa using h)
  cases n <;> simp [Instr.sameBits]
theorem eq_ints : ∀ (l m : List Int), l.length = m.length → EqCs (List.replicate l.length true) (l.map fun n => CF.pv (.int .i64 n)) (m.map fun n => CF.pv (.int .i64 n)) (decide (l = m))
  | [], [], _ => by simpa using EqCs.nil
  | x :: l, y :: m, h => by
    have ih := eq_ints l m (by simpa using h)
    have := EqCs.int (k := .i64) (a := x) (b := y) ih
    have e : (decide (x = y) && decide (l = m)) = decide (x :: l = y :: m) := by rw [Bool.eq_iff_iff]; simp
    rw [e] at this
    simpa [List.replicate_succ] using this
theorem cfs_ints {τ : Tau} {w : World} {y : Ys} : ∀ {l : List Int}, (∀ x ∈ l, inR .i64 x) → CFs τ w y (l.map fun n => CF.pv (.int .i64 n)) (l.map fun n => Value.int .i64 n)
  | [], _ => trivial
  | x :: l, h => ⟨⟨rfl, rfl, h x (by simp)⟩, cfs_ints fun z hz => h z (List.mem_cons_of_mem _ hz)⟩
/-- Structs of integers as keys. -/
theorem key_struct {kt : TypeId} {enc : κ → List Int} {n : Nat} (hl : ∀ k, (enc k).length = n) (hi : ∀ a b, enc a = enc b → a = b) (hf : P.flatS kt (List.replicate n true) = true) : KeyOK P kt (fun k => ∀ x ∈ enc k, inR .i64 x) (kvS enc) where
  check := fun b k w _ => by
    obtain ⟨f1, f2, _, _⟩ := flat_open hf
    unfold kvS
    rw [show (10000 : Nat) = 9998 + 1 + 1 from rfl, Instr.checkKey]
    simp only [Sem.run_bind, run_underlying f1, Result.andThen_ok]
    rw [← Array.forIn_toList]
    have hh := flat_ints_check (P := P) (w := w) b 9998 (xs := ((enc k).map fun n => Value.int .i64 n).toArray) (k := 0) (l := enc k) (m := n) f2 (by simp) (hl k)
    rw [hh]
    rfl
  find := fun vk es k w hok hks => by
    obtain ⟨f1, _, _, _⟩ := flat_open hf
    rw [run_findKey_eq (P := P) (w := w) (k := kt) (by rw [f1]) (kvS enc k) (es.map (mEnc vk (kvS enc)))]
    have key : ∀ (es : List (MapE κ)) (j : Nat), (∀ e ∈ es, ∀ x ∈ enc e.key, inR .i64 x) → (Instr.findAsking kt (kvS enc k) (es.map (mEnc vk (kvS enc))) j).run P w = .ok ((mIdx k es).map fun i => (i + j, .int vk (mVal k es))) w := by
      intro es
      induction es with
      | nil => intro j _; simp [Instr.findAsking, mIdx]
      | cons e es ih =>
        intro j hes
        have hq : (Op.equal kt (kvS enc k) (kvS enc e.key)).run P w = .ok (decide (enc k = enc e.key)) w :=
          run_eqS (a := { tmps := #[], defers := [] }) (yy := fun _ => False) hf (cfs_ints hok) (cfs_ints (hes e (by simp))) (by have := eq_ints (enc k) (enc e.key) (by rw [hl, hl]); rwa [hl] at this)
        rw [List.map_cons]
        unfold Instr.findAsking
        have ih' := ih (j + 1) fun z hz => hes z (List.mem_cons_of_mem _ hz)
        by_cases h : k = e.key
        · have he : enc k = enc e.key := by rw [h]
          simp only [mEnc, Sem.run_bind, hq, he, decide_true, Result.andThen_ok, if_true, Sem.run_pure]
          simp [mIdx, mVal, h]
        · have he : ¬ enc k = enc e.key := fun h' => h (hi _ _ h')
          simp only [mEnc, Sem.run_bind, hq, decide_eq_false he, Result.andThen_ok, Bool.false_eq_true, if_false]
          rw [show (es.map fun e => mEnc vk (kvS enc) e) = es.map (mEnc vk (kvS enc)) from rfl] at *
          rw [ih']
          simp only [mIdx, mVal, if_neg h]
          cases hm : mIdx k es with
          | none => rfl
          | some i => simp; omega
    have := key es 0 hks
    simpa using this
  same := fun k => same_ints (enc k) 9999
theorem IsKeyOf.int {n : Int} {k : Int} (h : Opd x ps (.pv (.int .i64 n))) (e : n = k) : IsKeyOf (fun _ => True) (fun n : Int => Value.int .i64 n) x ps k := fun a w yy hp => by
  subst e
  exact ⟨(h a w yy hp).1, trivial⟩
theorem pvs_ints {w : World} {y : Ys} : ∀ {l : List Int} {vs : List Value}, PVs (l.map fun n => PV.int .i64 n) vs w y → vs = l.map (fun n => Value.int .i64 n) ∧ ∀ x ∈ l, inR .i64 x
  | [], [], _ => ⟨rfl, by simp⟩
  | [], _ :: _, h => h.elim
  | _ :: _, [], h => h.elim
  | n :: l, v :: vs, h => by
    obtain ⟨h1, h2⟩ := pvs_ints (l := l) h.2
    have h3 : v = .int .i64 n ∧ inR .i64 n := h.1.2
    exact ⟨by rw [h3.1, h1]; rfl, fun x hx => by rcases List.mem_cons.1 hx with rfl | hx; exact h3.2; exact h2 x hx⟩
theorem IsKeyOf.agg {enc : κ → List Int} {k : κ} {l : List PV} (h : Opd x ps (.pv (.agg l))) (e : l = (enc k).map fun n => PV.int .i64 n) : IsKeyOf (fun k => ∀ x ∈ enc k, inR .i64 x) (kvS enc) x ps k := fun a w yy hp => by
  subst e
  obtain ⟨vs, e1, hv⟩ := h a w yy hp
  obtain ⟨h1, h2⟩ := pvs_ints hv
  exact ⟨by rw [e1, h1]; rfl, h2⟩
theorem mIdx_push {k : κ} {v : Int} {n : Nat} : ∀ {es : List (MapE κ)}, mIdx k es = none → mBorn k (es ++ [⟨k, v, n⟩]) = some n ∧ (mIdx k (es ++ [⟨k, v, n⟩])).isSome = true ∧ ∀ k', mVal k' (es ++ [⟨k, v, n⟩]) = if k' = k then v else mVal k' es
  | [], _ => by
    refine ⟨by simp [mBorn], by simp [mIdx], fun k' => ?_⟩
    by_cases h : k' = k <;> simp [mVal, h]
  | e :: es, hn => by
    unfold mIdx at hn
    split at hn
    · cases hn
    · rename_i hk
      obtain ⟨h1, h2, h3⟩ := mIdx_push (v := v) (n := n) (Option.map_eq_none_iff.1 hn)
      refine ⟨by simp [mBorn, hk, h1], by simp [mIdx, hk, h2], fun k' => ?_⟩
      rw [List.cons_append, mVal, mVal, h3]
      by_cases h4 : k' = e.key
      · have : ¬ k' = k := fun h => hk (h.symm.trans h4)
        rw [if_pos h4, if_neg this, if_pos h4]
      · rw [if_neg h4, if_neg h4]
theorem mEns_born (k : κ) (s : List (MapE κ) × Nat) : mBorn k (mEns k s).1 = some (mStamp k s) := by
  unfold mEns mStamp
  cases hi : mIdx k s.1 with
  | some i =>
    obtain ⟨e, _, _, _, h⟩ := mIdx_key hi
    simp [h]
  | none =>
    have h2 := (mIdx_none hi).2
    simp [(mIdx_push (v := 0) (n := s.2) hi).1, h2]
/-- What is read behind m[k] = v by its entry. -/
theorem mVal_entry {k k' : κ} {v : Int} (s : List (MapE κ) × Nat) : mVal k' (mSet k v (mEns k s).1) = if k' = k then v else mVal k' s.1 := by
  rw [mVal_set]
  unfold mEns
  cases hi : mIdx k s.1 with
  | some i => simp [hi]
  | none =>
    obtain ⟨_, h2, h3⟩ := mIdx_push (v := 0) (n := s.2) hi
    simp only [Option.isSome_none, Bool.false_eq_true, if_false, h2, and_true, h3]
    split <;> simp_all
end
section
variable {κ : Type} [DecidableEq κ]
def mGet (k : κ) : List (MapE κ) → Option Int
  | [] => none
  | e :: es => if k = e.key then some e.val else mGet k es
theorem mVal_get (k : κ) : ∀ es : List (MapE κ), mVal k es = (mGet k es).getD 0
  | [] => rfl
  | e :: es => by
    unfold mVal mGet
    split
    · rfl
    · exact mVal_get k es
theorem mIdx_get (k : κ) : ∀ es : List (MapE κ), (mIdx k es).isSome = (mGet k es).isSome
  | [] => rfl
  | e :: es => by
    unfold mIdx mGet
    split
    · rfl
    · rw [Option.isSome_map, mIdx_get k es]
/-- Each key once. -/
def MNd (es : List (MapE κ)) : Prop := (es.map (·.key)).Nodup
theorem mGet_mem {k : κ} : ∀ {es : List (MapE κ)}, (mGet k es).isSome = true ↔ k ∈ es.map (·.key)
  | [] => by simp [mGet]
  | e :: es => by
    unfold mGet
    split
    · rename_i h; simp [h]
    · rename_i h
      rw [mGet_mem (es := es)]
      simp [h]
theorem mSet_keys {k : κ} {v : Int} : ∀ es : List (MapE κ), (mSet k v es).map (·.key) = es.map (·.key)
  | [] => rfl
  | e :: es => by
    unfold mSet
    split
    · rfl
    · simp [mSet_keys es]
theorem mSet_length {k : κ} {v : Int} (es : List (MapE κ)) : (mSet k v es).length = es.length := by
  have := congrArg List.length (mSet_keys (k := k) (v := v) es)
  simpa using this
theorem MNd.set {k : κ} {v : Int} {es : List (MapE κ)} (h : MNd es) : MNd (mSet k v es) := by unfold MNd; rw [mSet_keys]; exact h
theorem MNd.push {k : κ} {v : Int} {n : Nat} {es : List (MapE κ)} (h : MNd es) (hk : mIdx k es = none) : MNd (es ++ [⟨k, v, n⟩]) := by
  unfold MNd at *
  rw [List.map_append, List.nodup_append]
  refine ⟨h, by simp, ?_⟩
  intro a ha b hb
  simp at hb
  subst hb
  intro e
  subst e
  have := (mGet_mem (k := a) (es := es)).2 ha
  rw [← mIdx_get, hk] at this
  cases this
theorem mGet_set {k k' : κ} {v : Int} : ∀ {es : List (MapE κ)}, (mIdx k es).isSome = true → mGet k' (mSet k v es) = if k' = k then some v else mGet k' es
  | [], h => by simp [mIdx] at h
  | e :: es, h => by
    unfold mSet
    by_cases hk : k = e.key
    · rw [if_pos hk]
      unfold mGet
      subst hk
      by_cases h2 : k' = e.key <;> simp [h2]
    · rw [if_neg hk]
      unfold mGet
      have ih := mGet_set (k' := k') (v := v) (es := es) (by unfold mIdx at h; simpa [hk] using h)
      by_cases h2 : k' = e.key
      · have h3 : ¬ k' = k := fun h => hk (h.symm.trans h2)
        rw [if_pos h2, if_pos h2, if_neg h3]
      · rw [if_neg h2, if_neg h2, ih]
theorem mGet_push {k k' : κ} {v : Int} {n : Nat} : ∀ {es : List (MapE κ)}, mIdx k es = none → mGet k' (es ++ [⟨k, v, n⟩]) = if k' = k then some v else mGet k' es
  | [], _ => by simp [mGet]
  | e :: es, hn => by
    unfold mIdx at hn
    split at hn
    · cases hn
    · rename_i hk
      have ih := mGet_push (k' := k') (v := v) (n := n) (Option.map_eq_none_iff.1 hn)
      rw [List.cons_append, mGet, mGet, ih]
      by_cases h4 : k' = e.key
      · have : ¬ k' = k := fun h => hk (h.symm.trans h4)
        rw [if_pos h4, if_pos h4, if_neg this]
      · rw [if_neg h4, if_neg h4]
theorem mGet_put {k k' : κ} {v : Int} {s : List (MapE κ) × Nat} : mGet k' (mPut k v s).1 = if k' = k then some v else mGet k' s.1 := by
  unfold mPut
  split
  · rename_i h; exact mGet_set h
  · rename_i h; exact mGet_push (by simpa using h)
theorem MNd.put {k : κ} {v : Int} {s : List (MapE κ) × Nat} (h : MNd s.1) : MNd (mPut k v s).1 := by
  unfold mPut
  split
  · exact h.set
  · rename_i h'; exact h.push (by simpa using h')
theorem MNd.ens {k : κ} {s : List (MapE κ) × Nat} (h : MNd s.1) : MNd (mEns k s).1 := by
  unfold mEns
  split
  · exact h
  · rename_i h'; exact h.push (by simpa using h')
theorem mGet_entry {k k' : κ} {v : Int} (s : List (MapE κ) × Nat) : mGet k' (mSet k v (mEns k s).1) = if k' = k then some v else mGet k' s.1 := by
  unfold mEns
  cases hi : mIdx k s.1 with
  | some i => simp only [Option.isSome_some, if_true]; exact mGet_set (by rw [hi]; rfl)
  | none =>
    obtain ⟨_, h2, _⟩ := mIdx_push (v := 0) (n := s.2) hi
    simp only [Option.isSome_none, Bool.false_eq_true, if_false]
    rw [mGet_set h2, mGet_push hi]
    split <;> rfl
theorem mEns_length {k : κ} {s : List (MapE κ) × Nat} : (mEns k s).1.length = if (mGet k s.1).isSome then s.1.length else s.1.length + 1 := by
  unfold mEns
  rw [mIdx_get]
  split <;> simp
/-- A key goes. -/
def mDel (k : κ) : List (MapE κ) → List (MapE κ)
  | [] => []
  | e :: es => if k = e.key then es else e :: mDel k es
theorem mDel_erase {k : κ} : ∀ {es : List (MapE κ)} {i : Nat}, mIdx k es = some i → mDel k es = es.eraseIdx i
  | [], i, h => by cases h
  | e :: es, i, h => by
    unfold mIdx at h
    unfold mDel
    split at h
    · rename_i hk; cases h; simp [hk]
    · rename_i hk
      obtain ⟨j, hj, rfl⟩ := Option.map_eq_some_iff.1 h
      rw [if_neg hk, mDel_erase hj]
      rfl
theorem mDel_none {k : κ} : ∀ {es : List (MapE κ)}, mIdx k es = none → mDel k es = es
  | [], _ => rfl
  | e :: es, h => by
    unfold mIdx at h
    unfold mDel
    split at h
    · cases h
    · rename_i hk; rw [if_neg hk, mDel_none (Option.map_eq_none_iff.1 h)]
theorem mDel_sub {k : κ} : ∀ {es : List (MapE κ)} {e : MapE κ}, e ∈ mDel k es → e ∈ es
  | x :: es, e, h => by
    unfold mDel at h
    split at h
    · exact List.mem_cons_of_mem _ h
    · rcases List.mem_cons.1 h with rfl | h
      · simp
      · exact List.mem_cons_of_mem _ (mDel_sub h)
theorem mDel_sublist {k : κ} : ∀ es : List (MapE κ), (mDel k es).Sublist es
  | [] => List.Sublist.slnil
  | e :: es => by
    unfold mDel
    split
    · exact List.sublist_cons_self _ _
    · exact (mDel_sublist es).cons_cons _
theorem MNd.del {k : κ} {es : List (MapE κ)} (h : MNd es) : MNd (mDel k es) := by
  unfold MNd at *
  exact ((mDel_sublist es).map (fun e : MapE κ => e.key)).nodup h
theorem MWf.del {k : κ} {es : List (MapE κ)} {clock : Nat} (h : MWf es clock) : MWf (mDel k es) clock := ⟨((mDel_sublist es).map (fun e : MapE κ => e.born)).nodup h.1, fun e he => h.2 e (mDel_sub he)⟩
theorem mGet_del {k k' : κ} : ∀ {es : List (MapE κ)}, MNd es → mGet k' (mDel k es) = if k' = k then none else mGet k' es
  | [], _ => by simp [mDel, mGet]
  | e :: es, h => by
    unfold MNd at h
    rw [List.map_cons, List.nodup_cons] at h
    unfold mDel
    by_cases hk : k = e.key
    · rw [if_pos hk]
      by_cases h2 : k' = k
      · rw [if_pos h2]
        cases hg : mGet k' es with
        | none => rfl
        | some x =>
          have := (mGet_mem (k := k') (es := es)).1 (by rw [hg]; rfl)
          rw [h2, hk] at this
          exact absurd this h.1
      · rw [if_neg h2, mGet, if_neg (fun h => h2 (h.trans hk.symm))]
    · rw [if_neg hk, mGet, mGet_del h.2, mGet]
      by_cases h4 : k' = e.key
      · have : ¬ k' = k := fun h => hk (h.symm.trans h4)
        rw [if_pos h4, if_neg this, if_pos h4]
      · rw [if_neg h4, if_neg h4]
theorem mDel_length {k : κ} : ∀ es : List (MapE κ), (mDel k es).length = if (mGet k es).isSome then es.length - 1 else es.length
  | [] => rfl
  | e :: es => by
    unfold mDel mGet
    by_cases hk : k = e.key
    · simp [hk]
    · rw [if_neg hk, if_neg hk, List.length_cons, mDel_length es]
      have : (mGet k es).isSome = true → 0 < es.length := fun h => by
        have := (mGet_mem (k := k) (es := es)).1 h
        cases es with
        | nil => simp at this
        | cons => simp
      split
      · rename_i h; have := this h; simp; omega
      · simp
end
section
variable {P : Program} {d : Option Nat} {t ty : TypeId} {pos : String} {af : Array Edge} {g : Option (Nat × Bool)} {x y z : Operand} {ps qs rs : List (Nat × SF)} {κ : Type} [DecidableEq κ] {ok : κ → Prop} {kv : κ → Value} {kt et : TypeId} {vk : IntKind}
theorem erase_map {α β : Type} (f : α → β) : ∀ (l : List α) (i : Nat), (l.map f).eraseIdx i = (l.eraseIdx i).map f
  | [], _ => rfl
  | _ :: _, 0 => rfl
  | a :: l, i + 1 => by simp [erase_map f l i]
theorem o_lookupOk {es : List (MapE κ)} {clock : Nat} {an : Anc} {k : κ} (m : Nat) (hu : P.underlying t = some (.map kt et)) (hk : KeyOK P kt ok kv) (hz : (P.info? et).map (·.zero) = some (some (.int vk 0))) (hx : IsAnc x ps an) (hy : IsKeyOf ok kv y qs k) :
    OpC P ⟨d, .lookup t x y true, ty, pos, af, g⟩ ⟨ps ++ qs, [(m, .ob an (mapH vk ok kv es clock))], .pv (.tup [.int vk (mVal k es), .bool (mGet k es).isSome]), []⟩ :=
  OpC.read fun act w F hp hr => by
    obtain ⟨b, e1, hb, hrg, hf⟩ := hr (m, .ob an (mapH vk ok kv es clock)) (by simp)
    have ex : act.eval x = .map (some b) := by rw [← e1]; exact hx act w _ hp.left
    obtain ⟨ey, hok⟩ := hy act w _ hp.right
    refine ⟨.tuple #[.int vk (mVal k es), .bool (mGet k es).isSome], ?_, fun _ _ => ⟨[_, _], rfl, ⟨rfl, mVal_range hrg.1⟩, rfl, trivial⟩⟩
    have h1 := hk.find vk es k w hok hrg.2.2
    rw [← mIdx_get]
    cases hi : mIdx k es with
    | some i =>
      rw [hi] at h1
      simp [execOp, ex, ey, Instr.lookup, run_underlying hu, Go.MapKept.run_getObj_map hb, hk.check _ _ _ hok, h1]
    | none =>
      rw [hi] at h1
      rw [(mIdx_none hi).1]
      simp [execOp, ex, ey, Instr.lookup, run_underlying hu, Go.MapKept.run_getObj_map hb, hk.check _ _ _ hok, h1, zero_int hz]
theorem o_len_map {es : List (MapE κ)} {clock : Nat} {an : Anc} (m : Nat) (hu : P.underlying t = some (.map kt et)) (hx : IsAnc x ps an) (hl : es.length ≤ 9223372036854775807) :
    OpC P ⟨d, .call { callee := .builtin .len, args := #[x], argTypes := #[t] }, ty, pos, af, g⟩ ⟨ps, [(m, .ob an (mapH vk ok kv es clock))], .pv (.int .i64 es.length), []⟩ :=
  OpC.read fun act w F hp hr => by
    obtain ⟨b, e1, hb, hrg, hf⟩ := hr (m, .ob an (mapH vk ok kv es clock)) (by simp)
    have ex : act.eval x = .map (some b) := by rw [← e1]; exact hx act w _ hp
    refine ⟨.int .i64 es.length, ?_, fun _ _ => ⟨rfl, by simp [inR, IntKind.min, IntKind.max, IntKind.signed, IntKind.bits]; omega⟩⟩
    simp [execOp, resolve, ex, invoke, builtin, Builtin.len_, Builtin.lenOf, run_underlying hu, Go.MapKept.run_getObj_map hb, goInt]
theorem o_delete {es : List (MapE κ)} {clock : Nat} {an : Anc} {k : κ} {t2 : TypeId} (m : Nat) (hu : P.underlying t = some (.map kt et)) (hk : KeyOK P kt ok kv) (hx : IsAnc x ps an) (hy : IsKeyOf ok kv y qs k) :
    OpC P ⟨none, .call { callee := .builtin .delete, args := #[x, y], argTypes := #[t, t2] }, ty, pos, af, g⟩ ⟨ps ++ qs, [(m, .ob an (mapH vk ok kv es clock))], .pv .any, [(m, .ob an (mapH vk ok kv (mDel k es) clock))]⟩ := fun act w F K Q hw hp hr ht => by
  obtain ⟨b, e1, hb, hrg, hf⟩ := hr (m, .ob an (mapH vk ok kv es clock)) (by simp)
  have ex : act.eval x = .map (some b) := by rw [← e1]; exact hx act w _ hp.left
  obtain ⟨ey, hok⟩ := hy act w _ hp.right
  have h1 := hk.find vk es k w hok hrg.2.2
  have hrun : (execOp act.eval ⟨none, .call { callee := .builtin .delete, args := #[x, y], argTypes := #[t, t2] }, ty, pos, af, g⟩).run P w = .ok (.value (.tuple #[])) { w with heap := w.heap.setIfInBounds b (.map ((mDel k es).map (mEnc vk kv)).toArray clock) } := by
    cases hi : mIdx k es with
    | some i =>
      rw [hi] at h1
      have he : (es.map (mEnc vk kv)).eraseIdx i = (mDel k es).map (mEnc vk kv) := by rw [mDel_erase hi, erase_map]
      simp [execOp, resolve, ex, ey, invoke, builtin, Builtin.delete_, run_underlying hu, Go.MapKept.run_getObj_map hb, hk.check _ _ _ hok, h1, Go.MapKept.run_setObj_map _ hb, he]
    | none =>
      rw [hi] at h1
      simp [execOp, resolve, ex, ey, invoke, builtin, Builtin.delete_, run_underlying hu, Go.MapKept.run_getObj_map hb, hk.check _ _ _ hok, h1, Go.MapKept.run_setObj_map _ hb, mDel_none hi]
  obtain ⟨g1, g2⟩ := map_step (o' := .map ((mDel k es).map (mEnc vk kv)).toArray clock) hw hb hf
  simp only [Oper.wp, hrun, Oper.upon]
  refine ht _ _ F g1 g2 trivial ?_
  intro q hq
  simp only [List.mem_singleton] at hq
  subst hq
  exact ⟨b, e1, (Go.MapKept.heap_set (o' := .map ((mDel k es).map (mEnc vk kv)).toArray clock) hb).1, ⟨fun e he => hrg.1 e (mDel_sub he), hrg.2.1.del, fun e he => hrg.2.2 e (mDel_sub he)⟩, hf⟩
end
end Go.Gm
