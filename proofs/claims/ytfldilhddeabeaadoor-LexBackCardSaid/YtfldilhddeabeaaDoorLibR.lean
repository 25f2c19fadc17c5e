/- Arrays in a block of one's own, at an index; a block that is only read from now on; bytes to a string. No condition. -/
import Derived.Test.YtfldilhddeabeaaDoorLibQ
namespace Go.Gm
set_option linter.unusedVariables false
set_option linter.unusedSimpArgs false

section
variable {P : Program} {d : Option Nat} {t t' ty : TypeId} {pos : String} {af : Array Edge} {g : Option (Nat × Bool)} {x y z z' : Operand} {ps qs rs : List (Nat × SF)} {k k' : IntKind} {i j : Int} {a : Anc} {T : TypeId} {cells : List CF}

theorem o_indexAddr_arr {len e sz k0 : Nat} (n : Nat) (hu : P.underlying t = some (.array len e)) (hs : (P.info? e).map (·.size) = some sz) (hx : AdrOk x ps a k0) (hy : Opd y qs (.pv (.int k i))) (h0 : 0 ≤ i) (h1 : i < len) (hd : depOk d (.adr a (k0 + i.toNat * sz)) = true) :
    OpC P ⟨d, .indexAddr t x y, ty, pos, af, g⟩ ⟨ps ++ qs, [(n, .pt a T cells)], .adr a (k0 + i.toNat * sz), []⟩ :=
  OpC.read fun act w F hp hr => by
    obtain ⟨b, vs, e1, hb, hf, hc⟩ := pt_open (hr (n, .pt a T cells) (by simp))
    have ex : act.eval x = .pointer (some ⟨b, k0, none⟩) := hx act w (U F) hp.left b e1
    have e2 := (hy act w (U F) hp.right).1
    have eadd : (⟨b, k0, none⟩ : Addr).add (i.toNat * sz) = ⟨b, k0 + i.toNat * sz, none⟩ := by
      unfold Addr.add
      split
      · rename_i h; simp [h]
      · rfl
    refine ⟨.pointer (some ⟨b, k0 + i.toNat * sz, none⟩), ?_, fun τ' ht => depOk_mono hd ht ?_⟩
    · simp [execOp, ex, e2, Instr.indexAt, Instr.sureAddr, run_underlying hu, asIntOf, h0, h1, run_sizeOf hs, eadd]
    · simp [SF.holds, e1, shift]

/-- A cell of an array told by a list. -/
theorem st_set {α : Type} (f : α → CF) : ∀ (l : List α) (k : Nat) (v : α), k < l.length → stCells (l.map f) k [f v] = (l.set k v).map f
  | [], k, v, h => by simp at h
  | x :: l, 0, v, h => by simp [stCells]
  | x :: l, k + 1, v, h => by
    have := st_set f l k v (by simpa using h)
    simp only [stCells, List.map_cons, List.take_succ_cons, List.length_cons, List.length_nil, List.set_cons_succ, List.cons_append] at *
    rw [← this]
    simp [Nat.add_assoc]

theorem unCF_map {α : Type} (f : α → PV) : ∀ (l : List α), unCF (l.map fun x => CF.pv (f x)) = l.flatMap fun x => [f x]
  | [] => rfl
  | x :: l => by simp [unCF, unCF_map f l]
theorem okCF_map {α : Type} (f : α → PV) : ∀ (l : List α), okCF (l.map fun x => CF.pv (f x)) = true
  | [] => rfl
  | x :: l => by simp [okCF, okCF_map f l]
end

/-- An array of one's own, a cell an element, told by a list. -/
def arrB {α : Type} (T : TypeId) (f : α → PV) (l : List α) (v : Value) : HP :=
  ⟨fun w fb y => (RS.pt (.val v) T (l.map fun x => CF.pv (f x))).holds tau0 w fb y, fun h hf k => RS.mono h hf (fun _ _ => rfl) k⟩
theorem cdeps_map {α : Type} (f : α → PV) : ∀ l : List α, cdeps (l.map fun x => CF.pv (f x)) = []
  | [] => rfl
  | x :: l => by simp [cdeps, CF.deps, cdeps_map f l]
theorem arrB_pt {α : Type} {T : TypeId} {f : α → PV} {l : List α} {v : Value} (τ : Tau) (w : World) (fb y : Ys) (h : (RS.ob (.val v) (arrB T f l)).holds τ w fb y) : (RS.pt (.val v) T (l.map fun x => CF.pv (f x))).holds τ w fb y :=
  RS.closed (by simp [RS.deps, Anc.deps, cdeps_map]) h
theorem pt_arrB {α : Type} {T : TypeId} {f : α → PV} {l : List α} {v : Value} (τ : Tau) (w : World) (fb y : Ys) (h : (RS.pt (.val v) T (l.map fun x => CF.pv (f x))).holds τ w fb y) : (RS.ob (.val v) (arrB T f l)).holds τ w fb y :=
  RS.closed (r := RS.pt (.val v) T (l.map fun x => CF.pv (f x))) (by simp [RS.deps, Anc.deps, cdeps_map]) h
section
variable {P : Program} {d : Option Nat} {t t' ty : TypeId} {pos : String} {af : Array Edge} {g : Option (Nat × Bool)} {x y z z' : Operand} {ps qs rs : List (Nat × SF)} {k k' : IntKind} {i j : Int} {T : TypeId} {α : Type} {f : α → PV} {l : List α} {u : Value}
theorem OpC.res {o : Oper} {ps : List (Nat × SF)} {q : SF} {n : Nat} {r r' : RS} {qr qr' : List (Nat × RS)} (h : OpC P o ⟨ps, [(n, r)], q, qr⟩) (hr : ∀ τ w fb y, r'.holds τ w fb y → r.holds τ w fb y) (hW : qr'.map (·.1) = qr.map (·.1)) (hq : ∀ τ w F, Hpr qr τ w F → Hpr qr' τ w F) : OpC P o ⟨ps, [(n, r')], q, qr'⟩ := fun a w F K Q hw hs hp ht =>
  h a w F K Q hw hs (fun x hx => by
    simp only [List.mem_singleton] at hx; subst hx
    exact hr _ _ _ _ (hp (n, r') (by simp))) (fun v w' F' h1 h2 h3 h4 => ht v w' F' h1 (by
      have e : (CD.W ⟨ps, [(n, r')], q, qr'⟩) = CD.W ⟨ps, [(n, r)], q, qr⟩ := hW
      rw [e]; exact h2) h3 (hq _ _ _ h4))
theorem o_indexAddr_ab {len e sz k0 : Nat} (n : Nat) (hu : P.underlying t = some (.array len e)) (hs : (P.info? e).map (·.size) = some sz) (hx : AdrOk x ps (.val u) k0) (hy : Opd y qs (.pv (.int k i))) (h0 : 0 ≤ i) (h1 : i < len) :
    OpC P ⟨d, .indexAddr t x y, ty, pos, af, g⟩ ⟨ps ++ qs, [(n, .ob (.val u) (arrB T f l))], .adr (.val u) (k0 + i.toNat * sz), []⟩ :=
  OpC.res (o_indexAddr_arr (cells := l.map fun x => CF.pv (f x)) (T := T) n hu hs hx hy h0 h1 (by cases d <;> rfl)) arrB_pt rfl (fun _ _ _ h => h)
theorem o_load_ab {k0 : Nat} [Inhabited α] (n : Nat) (hx : AdrOk x ps (.val u) k0) (ha : P.aggB t = some false) (hs : (P.info? t).map (·.size) = some 1) (hk : k0 < l.length) :
    OpC P ⟨d, .load t x, ty, pos, af, g⟩ ⟨ps, [(n, .ob (.val u) (arrB T f l))], .pv (f (nth l k0)), []⟩ := by
  have hd : ldSF false 1 (l.map fun x => CF.pv (f x)) k0 = .pv (f (nth l k0)) := by
    have : (l.map fun x => CF.pv (f x))[k0]? = some (CF.pv (f (nth l k0))) := by rw [List.getElem?_map, List.getElem?_eq_getElem hk, nth_eq hk]; rfl
    have h2 : (l.map fun x => CF.pv (f x)).drop k0 = CF.pv (f (nth l k0)) :: (l.map fun x => CF.pv (f x)).drop (k0 + 1) := by
      rw [List.drop_eq_getElem_cons (by simpa using hk)]
      congr 1
      rw [List.getElem?_eq_getElem (by simpa using hk)] at this
      exact Option.some.inj this
    simp [ldSF, h2, this]
  have := o_load (d := d) (ty := ty) (pos := pos) (af := af) (g := g) (P := P) (cells := l.map fun x => CF.pv (f x)) (T := T) n hx ha hs (by simpa [wid, Nat.succ_le_iff] using hk) (by rw [hd]; cases d <;> rfl)
  rw [hd] at this
  exact OpC.res this arrB_pt rfl (fun _ _ _ h => h)
theorem o_store_ab {v : α} {k0 : Nat} (n : Nat) (hx : AdrOk x ps (.val u) k0) (hy : Opd y qs (.pv (f v))) (h1 : ∀ v' w yy, (f v).p v' w yy → v'.oneCell' = true) (hs : (P.info? t).map (·.size) = some 1) (hk : k0 < l.length) :
    OpC P ⟨none, .store t x y, ty, pos, af, g⟩ ⟨ps ++ qs, [(n, .ob (.val u) (arrB T f l))], .pv .any, [(n, .ob (.val u) (arrB T f (l.set k0 v)))]⟩ :=
  OpC.res (o_store1 (cells := l.map fun x => CF.pv (f x)) (T := T) n hx hy h1 hs (by rw [Nat.ble_eq, List.length_map]; exact hk)) arrB_pt rfl (fun τ w F h => by
    intro z hz
    simp only [List.mem_singleton] at hz
    subst hz
    have := h (n, .pt (.val u) T (stCells (l.map fun x => CF.pv (f x)) k0 [CF.pv (f v)])) (by simp)
    rw [st_set (fun x => CF.pv (f x)) l k0 v hk] at this
    exact pt_arrB _ _ _ _ this)
end

section
variable {B : Base} {E : En} {a : Act} {w : World} {F : Fp}
/-- A block that is owned is only read from now on. -/
theorem Sat.giveRef {T : TypeId} {cells : List CF} {v : Value} (h : Sat B E a w F) (n i : Nat) (hn : look E.r n = some (.pt (.val v) T cells)) (hi : look E.s i = some (.pv (.is v))) (hk : okCF cells = true) :
    ∃ F', Sat B ⟨(i, .pv (.ref (unCF cells))) :: E.s, (n, RS.hp (HP.star [])) :: E.r⟩ a w F' := by
  have hle : ∀ b, U (fun m => if m = n then fun _ => False else F m) b → U F b := fun b ⟨m, hm⟩ => ⟨m, by
    by_cases e : m = n
    · simp only [e, if_true] at hm
    · simp only [e, if_false] at hm; exact hm⟩
  have hev := Ev.less w hle
  refine ⟨fun m => if m = n then fun _ => False else F m, ⟨fun m k b hm hk => ?_, fun m b hm => ?_⟩, h.ev.trans hev, h.n, h.df, fun j s hj => ?_, fun m r hm => ?_, fun m b hm => ?_⟩
  · by_cases e1 : m = n
    · simp only [e1, if_true] at hm
    · by_cases e2 : k = n
      · simp only [e2, if_true] at hk
      · simp only [e1, e2, if_false] at hm hk; exact h.wf.dis m k b hm hk
  · by_cases e1 : m = n
    · simp only [e1, if_true] at hm
    · simp only [e1, if_false] at hm; exact h.wf.bd m b hm
  · rw [look_cons] at hj
    split at hj
    · rename_i e
      simp only [Option.some.injEq] at hj; subst hj; subst e
      have hv : Act.tau a i = v := (h.s i _ hi).1
      obtain ⟨b, vs, e1, h1, h2, h3⟩ := h.r n _ hn
      simp only [Anc.v] at e1
      show (PV.ref (unCF cells)).p (Act.tau a i) w _
      rw [hv, e1]
      have hb : F n b := (h2 b).2 rfl
      refine ⟨b, 0, vs.toList, rfl, ?_, h.wf.bd n b hb, cellsAt.mk fun j v hj => ?_, PVs.mono hev (PVs.unCF hk h3)⟩
      · rintro ⟨m, hm⟩
        by_cases e2 : m = n
        · simp only [e2, if_true] at hm
        · simp only [e2, if_false] at hm
          exact e2 (h.wf.dis m n b hm hb)
      · simp only [World.cell?, h1]
        simpa using hj
    · exact SF.mono hev (fun _ _ => rfl) (h.s j s hj)
  · rw [look_cons] at hm
    split at hm
    · rename_i e
      simp only [Option.some.injEq] at hm; subst hm; subst e
      intro b hb
      simp only [if_true] at hb
    · rename_i e
      have e2 : ¬ m = n := fun h => e h.symm
      simp only [e2, if_false]
      exact RS.mono hev (fun _ _ => rfl) (fun _ _ => rfl) (h.r m r hm)
  · by_cases e1 : m = n
    · simp only [e1, if_true] at hm
    · simp only [e1, if_false] at hm
      obtain ⟨r, hr⟩ := h.em m b hm
      exact ⟨r, by rw [look_cons, if_neg (fun h => e1 h.symm)]; exact hr⟩
end

section
variable {P : Program} {d : Option Nat} {t t' ty : TypeId} {pos : String} {af : Array Edge} {g : Option (Nat × Bool)} {x y z z' : Operand} {ps qs rs : List (Nat × SF)} {k k' : IntKind} {i j : Int}
theorem PVs.dropR {α : Type} {R : α → List PV} {sz : Nat} (hR : ∀ x, (R x).length = sz) {w y} : ∀ {l : List α} {vs : List Value} (i : Nat), PVs (l.flatMap R) vs w y → PVs ((l.drop i).flatMap R) (vs.drop (i * sz)) w y
  | [], [], i, _ => by simp [PVs]
  | x :: l, vs, 0, h => by simpa using h
  | x :: l, vs, i + 1, h => by
    rw [List.flatMap_cons] at h
    obtain ⟨us, zs, rfl, h1, h2⟩ := PVs.split h
    have hl : us.length = sz := by rw [← h1.len, hR]
    have := PVs.dropR hR (l := l) i h2
    rw [List.drop_succ_cons, Nat.succ_mul, show (us ++ zs).drop (i * sz + sz) = zs.drop (i * sz) by rw [Nat.add_comm, ← hl, List.drop_append, List.drop_of_length_le (by omega)]; simp]
    exact this
/-- The end of an array that is only read. -/
theorem o_slice_arr {α : Type} {R : α → List PV} {l : List α} {e sz len : Nat} (hu : P.underlying t = some (.array len e)) (hs : (P.info? e).map (·.size) = some sz) (hR : ∀ x, (R x).length = sz) (hl : l.length = len) (hm : len ≤ maxLen) (hx : Opd x ps (.pv (.ref (l.flatMap R)))) (hz : Opd z qs (.pv (.int k i))) (h0 : 0 ≤ i) (h1 : i ≤ len) :
    OpC P ⟨d, .slice t x (some z) none none, ty, pos, af, g⟩ ⟨ps ++ qs, [], .pv (.sl R (l.drop i.toNat)), []⟩ :=
  OpC.pure fun a w yy hp => by
    obtain ⟨b, off, vs, e1, hy, hb, hc, hpv⟩ := hx a w yy hp.left
    have e2 := (hz a w yy hp.right).1
    have hbd : (Instr.sliceBounds false len len (some (.int k i)) none none).run P w = .ok (i.toNat, len, len) w := by
      have h1' : i ≤ ((len : Nat) : Int) := h1
      simp [Instr.sliceBounds, Instr.sliceBound, asIntOf, h0, h1']
    refine ⟨.slice (some (if len = i.toNat then ⟨b, off, none⟩ else (⟨b, off, none⟩ : Addr).add (i.toNat * sz))) (len - i.toNat) (len - i.toNat), ?_, fun _ _ => ?_⟩
    · simp [execOp, e1, e2, Instr.sliceAt, Instr.sureAddr, run_underlying hu, hbd, run_sizeOf hs]
    · have hld : (l.drop i.toNat).length = len - i.toNat := by rw [List.length_drop, hl]
      refine ⟨_, len - i.toNat, by rw [hld], by omega, by omega, ?_⟩
      by_cases he : len = i.toNat
      · left; exact List.eq_nil_of_length_eq_zero (by omega)
      · right
        rw [if_neg he]
        refine ⟨b, off + i.toNat * sz, vs.drop (i.toNat * sz), ?_, hy, hb, ?_, PVs.dropR hR _ hpv⟩
        · unfold Addr.add
          split
          · rename_i h; simp [h]
          · rfl
        · have hlen : i.toNat * sz ≤ vs.length := by
            have h2 := hpv.len
            have h3 : (l.flatMap R).length = l.length * sz := by
              clear hpv h2 hx hl hld
              induction l with
              | nil => simp
              | cons x l ih => rw [List.flatMap_cons, List.length_append, hR, ih, List.length_cons, Nat.succ_mul]; omega
            rw [← h2, h3, hl]
            exact Nat.mul_le_mul_right sz (by omega)
          have : vs = vs.take (i.toNat * sz) ++ vs.drop (i.toNat * sz) := (List.take_append_drop _ _).symm
          rw [this] at hc
          have h4 := cellsAt.right hc
          rwa [List.length_take, Nat.min_eq_left hlen] at h4

theorem Ent.bs {l l' : List UInt8} (h : l = l') : Ent (.pv (.bs l)) (.pv (.bs l')) := by subst h; exact Ent.refl
def rB (x : Int) : List PV := [.int .u8 x]
def toB (x : Int) : UInt8 := UInt8.ofNat x.toNat
theorem toB_val {x : Int} (h : inR .u8 x) : ((toB x).toNat : Int) = x := by
  simp [inR, IntKind.min, IntKind.max, IntKind.signed, IntKind.bits] at h
  unfold toB
  rw [UInt8.toNat_ofNat']
  omega
theorem bytes_cells {w : World} {y : Ys} {b : Nat} : ∀ {l : List Int} {off : Nat} {vs : List Value}, PVs (l.flatMap rB) vs w y → cellsAt w b off vs → ∀ j (hj : j < (l.map toB).length), w.cell? ⟨b, off + j, none⟩ = some (.int .u8 ((l.map toB)[j].toNat : Int))
  | [], off, vs, _, _, j, hj => by simp at hj
  | x :: l, off, [], h, _, _, _ => by simp [rB, PVs] at h
  | x :: l, off, v :: vs, h, hc, j, hj => by
    have h' : (v.oneCell' = true ∧ (PV.int .u8 x).p v w y) ∧ PVs (l.flatMap rB) vs w y := h
    obtain ⟨⟨_, hv, hr⟩, h2⟩ := h'
    cases j with
    | zero =>
      have := hc.1
      rw [hv] at this
      simp only [List.map_cons, List.getElem_cons_zero, toB_val hr]
      simpa using this
    | succ j =>
      have := bytes_cells h2 hc.2 j (by simpa using hj)
      simp only [List.map_cons, List.getElem_cons_succ]
      rw [show off + (j + 1) = off + 1 + j by omega]; exact this
theorem o_conv_sl_bs {l : List Int} {e : TypeId} (hs : P.underlying t = some (.slice e)) (he : P.underlying e = some (.int .u8)) (hd : P.underlying t' = some .string) (hx : Opd x ps (.pv (.sl rB l))) :
    OpC P ⟨d, .convert t t' x, ty, pos, af, g⟩ ⟨ps, [], .pv (.bs (l.map toB)), []⟩ :=
  OpC.pure fun a w yy hp => by
    obtain ⟨ad, cap, e1, h1, h2, h3⟩ := hx a w yy hp
    refine ⟨.string ⟨(l.map toB).toArray⟩, ?_, fun _ _ => ⟨rfl, by rw [size_mk, List.length_map]; omega⟩⟩
    rcases h3 with rfl | ⟨b, off, vs, rfl, _, _, hc, hpv⟩
    · have : (convert t t' (.slice ad 0 cap)).run P w = .ok (.string ⟨#[]⟩) w := by
        rw [run_convert_bytes_string w t t' e ad 0 cap hs he hd]
        cases ad with
        | none => simp [Conv.bytesToString]; rfl
        | some ad => rfl
      simp only [execOp, e1, List.length_nil, List.map_nil, Sem.run_bind, this, Result.andThen_ok, Sem.run_pure]
    · have := run_convert_bytes_back (P := P) w t t' e ⟨b, off, none⟩ cap (l.map toB) hs he hd (fun j hj => by
        have := bytes_cells hpv hc j hj
        have ea : (⟨b, off, none⟩ : Addr).add j = ⟨b, off + j, none⟩ := by
          unfold Addr.add
          split
          · rename_i h; simp [h]
          · rfl
        rw [ea]; exact this)
      rw [List.length_map] at this
      simp only [execOp, e1, Sem.run_bind, this, Result.andThen_ok, Sem.run_pure]
theorem o_conv_arr_bs {l : List Int} {e : TypeId} (hs : P.underlying t = some (.slice e)) (he : P.underlying e = some (.int .u8)) (hd : P.underlying t' = some .string) (hl : Nat.ble l.length maxLen = true) (hx : Opd x ps (.pv (.arr l.length (l.flatMap rB)))) :
    OpC P ⟨d, .convert t t' x, ty, pos, af, g⟩ ⟨ps, [], .pv (.bs (l.map toB)), []⟩ :=
  o_conv_sl_bs hs he hd (fun a w y hp => by
    obtain ⟨b, vs, e1, h1, h2, h3, h4⟩ := hx a w y hp
    exact ⟨some ⟨b, 0, none⟩, l.length, e1, Nat.le_refl _, Nat.le_of_ble_eq_true hl, .inr ⟨b, 0, vs, rfl, h1, h2, h3, h4⟩⟩)
end
end Go.Gm
