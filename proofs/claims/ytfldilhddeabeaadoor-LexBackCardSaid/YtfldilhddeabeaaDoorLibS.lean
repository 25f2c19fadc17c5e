/- What a builder of strings is made of: pointers that are converted, a string behind a row, a row as a string. No condition. -/
import Derived.Test.YtfldilhddeabeaaDoorLibR
import Derived.Lib.Builder
import Derived.Lib.AppendStr
import Derived.Lib.UnsafeStr
import Derived.Laws.Externs
namespace Go.Gm
open Go.Lib
set_option linter.unusedVariables false
set_option linter.unusedSimpArgs false

def rC (c : UInt8) : List PV := [.int .u8 (c.toNat : Int)]
theorem rC_one (c : UInt8) : (rC c).length = 1 := rfl

section
variable {P : Program} {d : Option Nat} {t t' ty : TypeId} {pos : String} {af : Array Edge} {g : Option (Nat × Bool)} {x y z z' : Operand} {ps qs rs : List (Nat × SF)} {k k' : IntKind} {i j : Int} {T : TypeId} {cells : List CF} {v : Value}

theorem o_conv_unsafe {s : TypeId} (n : Nat) (hs : P.underlying t = some (.pointer s)) (hd : P.underlying t' = some .unsafePointer) (hz : (P.info? s).map (fun i => Nat.blt 0 i.size) = some true) (hc : Nat.blt 0 cells.length = true) (hx : Opd x ps (.pv (.is v))) :
    OpC P ⟨d, .convert t t' x, ty, pos, af, g⟩ ⟨ps, [(n, .pt (.val v) T cells)], .pv (.is v), []⟩ :=
  OpC.read fun act w F hp hr => by
    obtain ⟨b, vs, e1, hb, hf, hcs⟩ := pt_open (hr (n, .pt (.val v) T cells) (by simp))
    have e2 := hx act w (U F) hp
    simp only [Anc.v] at e1
    obtain ⟨i, hi, hz'⟩ := Option.map_eq_some_iff.1 hz
    have hl : vs.size = cells.length := by have := hcs.len; simpa using this.symm
    have hsh : w.shape? b = some (T, vs.size) := by simp [World.shape?, hb]
    have hrun := run_to_unsafe (P := P) w (src := t) (dst := t') (cells := vs.size) ⟨b, 0, none⟩ hs hd hi (by simp [Nat.blt_eq] at hz'; omega) hsh (by simp [Nat.blt_eq] at hc; simp; omega)
    refine ⟨v, ?_, fun _ _ => ⟨rfl, by rw [e1]; rfl⟩⟩
    have e3 : act.eval x = .pointer (some ⟨b, 0, none⟩) := by rw [e2.1]; exact e1
    simp only [execOp, e3, Sem.run_bind, hrun, Result.andThen_ok, Sem.run_pure, e1]
theorem o_conv_safe {s : TypeId} (n : Nat) (hs : P.underlying t = some .unsafePointer) (hd : P.underlying t' = some (.pointer s)) (hz : (P.info? s).isSome = true) (hc : liesAt P P.depth T (cells.length / P.cellsOf T) 0 s 1 = true) (hx : Opd x ps (.pv (.is v))) :
    OpC P ⟨d, .convert t t' x, ty, pos, af, g⟩ ⟨ps, [(n, .pt (.val v) T cells)], .pv (.is v), []⟩ :=
  OpC.read fun act w F hp hr => by
    obtain ⟨b, vs, e1, hb, hf, hcs⟩ := pt_open (hr (n, .pt (.val v) T cells) (by simp))
    have e2 := hx act w (U F) hp
    simp only [Anc.v] at e1
    obtain ⟨i, hi⟩ := Option.isSome_iff_exists.1 hz
    have hl : vs.size = cells.length := by have := hcs.len; simpa using this.symm
    have hsh : w.shape? b = some (T, vs.size) := by simp [World.shape?, hb]
    have hrun := run_from_unsafe (P := P) w (src := t) (dst := t') (cells := vs.size) ⟨b, 0, none⟩ hs hd hi hsh (by rw [hl]; exact hc)
    refine ⟨v, ?_, fun _ _ => ⟨rfl, by rw [e1]; rfl⟩⟩
    have e3 : act.eval x = .pointer (some ⟨b, 0, none⟩) := by rw [e2.1]; exact e1
    simp only [execOp, e3, Sem.run_bind, hrun, Result.andThen_ok, Sem.run_pure, e1]
/-- internal/abi.NoEscape -/
theorem o_noEscape {f : FuncId} {fn : Func} {tys : Array TypeId} (hf : P.funcs[f]? = some fn) (hname : (fn.name == "runtime.NumGoroutine") = false) (hb : fn.body.isNone = true) (hn : Extern.findNext fn = none) (he : Extern.find fn = some Extern.AbiNoEscape.same) (hx : Opd x ps (.pv (.is v))) :
    OpC P ⟨d, .call { callee := .value (.func f), args := #[x], argTypes := tys }, ty, pos, af, g⟩ ⟨ps, [], .pv (.is v), []⟩ :=
  OpC.pure fun a w yy hp => by
    have e1 := hx a w yy hp
    refine ⟨v, ?_, fun _ _ => ⟨rfl, by rw [← e1.1]; exact e1.2⟩⟩
    have hc := run_callFunc_extern (P := P) hf hname hb hn he #[v] w
    have e2 : a.eval (.func f) = .func (.func f) #[] #[] := rfl
    rw [run_noEscape] at hc
    simpa [execOp, resolve, e1.1, e2, Deferred.ofValue, invoke] using hc
theorem o_neq_same {s : TypeId} {b : Nat} (hu : P.underlying t = some (.pointer s)) (hi : (P.info? s).isSome = true) (hx : Opd x ps (.pv (.is (.pointer (some ⟨b, 0, none⟩))))) (hy : Opd y qs (.pv (.is (.pointer (some ⟨b, 0, none⟩))))) :
    OpC P ⟨d, .binOp .neq t x y t', ty, pos, af, g⟩ ⟨ps ++ qs, [], .pv (.bool false), []⟩ :=
  OpC.pure fun a w yy hp => by
    have e1 := (hx a w yy hp.left).1
    have e2 := (hy a w yy hp.right).1
    obtain ⟨j, hj⟩ := Option.isSome_iff_exists.1 hi
    have hr := run_neq_ptr_same (P := P) w ⟨b, 0, none⟩ hu hj
    refine ⟨.bool false, ?_, fun _ _ => rfl⟩
    simp only [execOp, e1, e2, Sem.run_bind, show (eqGuard .neq t x y (.pointer (some ⟨b, 0, none⟩)) (.pointer (some ⟨b, 0, none⟩))).run P w = .ok () w from rfl, Result.andThen_ok, hr, Sem.run_pure]

theorem pvs_str {w : World} {y : Ys} : ∀ (l : List UInt8), PVs (l.flatMap rC) (l.map fun b => Value.int .u8 (b.toNat : Int)) w y
  | [] => trivial
  | c :: l => ⟨⟨rfl, rfl, by
      have := c.toNat_lt
      simp [inR, IntKind.min, IntKind.max, IntKind.signed, IntKind.bits]; omega⟩, pvs_str l⟩
theorem strCells_mk (l : List UInt8) : strCells ⟨l.toArray⟩ = l.map fun b => Value.int .u8 (b.toNat : Int) := by simp [strCells]
theorem append_law_str {w : World} {t u T : TypeId} {ty : TypeId} (ht : P.underlying t = some (.slice T)) (hu : P.underlying u = some .string) (hi : ∃ i, P.info? T = some i ∧ i.zero = some (.int .u8 0) ∧ i.size = 1 ∧ i.bytes = 1) {v : Value} {n : Nat} {xs : List Value} (hown : w.ownsRow 0 T 1 v n xs) (s : ByteArray)
    (h63 : n + s.size ≤ maxLen) (hbytes : n + s.size ≤ 140737488355328) :
    ∃ v' w', (Builtin.append_ #[t, u] ty #[v, .string s]).run P w = .ok v' w' ∧ w'.ownsRow 0 T 1 v' (n + s.size) (xs ++ strCells s) ∧ w.grownBy w' v.ownBlock ∧ ∀ k, v'.ownBlock = some k → v.ownBlock = some k ∨ k = w.heap.size := by
  obtain ⟨i, hi, hz, hsz, hby⟩ := hi
  obtain ⟨v', w', r1, r2, r3, r4⟩ := run_append_own_string (P := P) w 0 t u ty T i ht hu hi hz hsz hby v n xs hown s h63 hbytes (Nat.zero_le _)
  refine ⟨v', w', r1, r2, r3, fun k hk => ?_⟩
  rcases hown.2 with ⟨rfl, rfl⟩ | ⟨g, cap, cur, rfl, _, hg, hnc, hcm, hcs, htake⟩
  · by_cases hm : s.size = 0
    · have := r4.2 ⟨rfl, hm⟩
      rw [this] at hk; simp [Value.ownBlock] at hk
    · have hr := run_append_nil_string (P := P) w t u ty T i _ ht hu hi hz s (by omega) (by unfold maxLen at h63; omega) (by rw [hby]; omega)
      rw [r1] at hr
      simp only [Result.ok.injEq] at hr
      rw [hr.1] at hk
      simp [Value.ownBlock] at hk
      exact .inr hk.symm
  · by_cases hroom : n + s.size ≤ cap
    · have hr := run_append_room_string (P := P) w t u ty T i ht hu hi hsz g n cap cur hg s hroom (by rw [hcs]; omega)
      rw [r1] at hr
      simp only [Result.ok.injEq] at hr
      rw [hr.1] at hk
      exact .inl hk
    · have holds : ∀ j u, xs[j]? = some u → w.cell? ((⟨g, 0, none⟩ : Addr).add j) = some u := hown.cells (g := g) rfl
      have hr := run_append_grow_string (P := P) w t u ty T i _ ht hu hi hz ⟨g, 0, none⟩ n cap xs (by rw [hsz]; exact hown.1) holds s (by omega) (by unfold maxLen at h63; omega) (by rw [hby]; have := growslice_fits (bytes := 1) (show cap < n + s.size by omega) (by omega); simpa using this)
      rw [r1] at hr
      simp only [Result.ok.injEq] at hr
      rw [hr.1] at hk
      simp [Value.ownBlock] at hk
      exact .inr hk.symm
theorem o_append_str {u : TypeId} {a : Anc} {l l' : List UInt8} {d' : Nat} (n : Nat) (ht : P.underlying t = some (.slice T)) (hu : P.underlying u = some .string) (hi : (P.info? T).map (fun i => (i.zero, i.size, i.bytes)) = some (some (.int .u8 0), 1, 1)) (hx : IsAnc x ps a) (hy : Opd y qs (.pv (.bs l'))) (hb : l.length + l'.length ≤ 140737488355328) :
    OpC P ⟨some d', .call { callee := .builtin .append, args := #[x, y], argTypes := #[t, u] }, ty, pos, af, g⟩ ⟨ps ++ qs, [(n, .ob a (rowH T 1 rC l))], .same d', [(n, .ob (.slot d') (rowH T 1 rC (l ++ l')))]⟩ := fun act w F K Q hw hp hr ht' => by
  obtain ⟨xs, h1, h2, h3⟩ := hr (n, .ob a (rowH T 1 rC l)) (by simp)
  have e2 : act.eval x = a.v (Act.tau act) := hx act w _ hp.left
  have e3 := (hy act w _ hp.right).1
  have hi' : ∃ i, P.info? T = some i ∧ i.zero = some (.int .u8 0) ∧ i.size = 1 ∧ i.bytes = 1 := by
    obtain ⟨i, h4, h5⟩ := Option.map_eq_some_iff.1 hi
    simp only [Prod.mk.injEq] at h5
    exact ⟨i, h4, h5.1, h5.2.1, h5.2.2⟩
  obtain ⟨v', w', r1, r2, r3, r4⟩ := append_law_str (P := P) (ty := ty) ht hu hi' h1 ⟨l'.toArray⟩ (by rw [size_mk]; unfold maxLen; omega) (by rw [size_mk]; exact hb)
  rw [size_mk, strCells_mk] at r2
  have hrun : (execOp act.eval ⟨some d', .call { callee := .builtin .append, args := #[x, y], argTypes := #[t, u] }, ty, pos, af, g⟩).run P w = .ok (.value v') w' := by
    simp only [execOp, resolve, invoke, builtin, Sem.run_bind, Sem.run_pure, Result.andThen_ok, List.map_toArray, List.map_cons, List.map_nil, e2, e3, r1]
  simp only [Oper.wp, hrun, Oper.upon]
  obtain ⟨g1, g2⟩ := grown_row hw r3 h3 r4 (fun k hk => (r2.lt k hk).2)
  refine ht' v' w' _ g1 g2 (by
    obtain ⟨ad, cap, e, _⟩ := row_shape r2
    exact ⟨by simp [upd], by rw [e]; rfl⟩) ?_
  intro z hz
  simp only [List.mem_singleton] at hz
  subst hz
  have hτ : upd (Act.tau act) (some d') v' d' = v' := by simp [upd]
  refine ⟨xs ++ l'.map (fun b => Value.int .u8 (b.toNat : Int)), ?_, ?_, ?_⟩
  · simp only [Anc.v, hτ, List.length_append]; exact r2
  · rw [List.flatMap_append]
    exact PVs.append (PVs.mono g2.ev h2) (pvs_str l')
  · intro b; simp [Anc.v, hτ]

/-- Where a row's elements lie; nil has none. -/
theorem o_sliceData {a : Anc} {l : List UInt8} {tys : Array TypeId} (n : Nat) (hl : l ≠ []) (hx : IsAnc x ps a) (hd : depOk d (.adr a 0) = true) :
    OpC P ⟨d, .call { callee := .builtin .unsafeSliceData, args := #[x], argTypes := tys }, ty, pos, af, g⟩ ⟨ps, [(n, .ob a (rowH T 1 rC l))], .adr a 0, []⟩ :=
  OpC.read fun act w F hp hr => by
    obtain ⟨xs, h1, h2, h3⟩ := hr (n, .ob a (rowH T 1 rC l)) (by simp)
    obtain ⟨ad, cap, e1, h4, h5, h6⟩ := row_shape h1
    have hpos : 0 < l.length := List.length_pos_iff.2 hl
    rcases h6 with h6 | ⟨b, rfl, h7, _⟩
    · omega
    · have e2 : act.eval x = .slice (some ⟨b, 0, none⟩) l.length cap := by rw [hx act w _ hp]; exact e1
      have hrun := run_unsafeSliceData_row (P := P) w tys ty ⟨b, 0, none⟩ l.length cap (by omega)
      refine ⟨.pointer (some ⟨b, 0, none⟩), ?_, fun τ' ht => depOk_mono hd ht ?_⟩
      · simp only [execOp, resolve, invoke, builtin, Sem.run_bind, Sem.run_pure, Result.andThen_ok, List.map_toArray, List.map_cons, List.map_nil, e2, hrun]
      · simp [SF.holds, e1, shift]
theorem o_sliceData_nil {tys : Array TypeId} (hx : Opd x ps (.pv (.is (.slice none 0 0)))) :
    OpC P ⟨d, .call { callee := .builtin .unsafeSliceData, args := #[x], argTypes := tys }, ty, pos, af, g⟩ ⟨ps, [], .pv (.is (.pointer none)), []⟩ :=
  OpC.pure fun act w yy hp => by
    have e2 := (hx act w yy hp).1
    have hrun := run_unsafeSliceData_nil (P := P) w tys ty 0 0
    exact ⟨.pointer none, by simp only [execOp, resolve, invoke, builtin, Sem.run_bind, Sem.run_pure, Result.andThen_ok, List.map_toArray, List.map_cons, List.map_nil, e2, hrun], fun _ _ => ⟨rfl, rfl⟩⟩
theorem o_unsafeString_nil {pt it : TypeId} (hx : Opd x ps (.pv (.is (.pointer none)))) (hy : Opd y qs (.pv (.int .i64 0))) :
    OpC P ⟨d, .call { callee := .builtin .unsafeString, args := #[x, y], argTypes := #[pt, it] }, ty, pos, af, g⟩ ⟨ps ++ qs, [], .pv (.bs []), []⟩ :=
  OpC.pure fun act w yy hp => by
    have e1 := (hx act w yy hp.left).1
    have e2 := (hy act w yy hp.right).1
    have hrun := run_unsafeString_none (P := P) w pt it ty none
    exact ⟨.string ⟨#[]⟩, by simp only [execOp, resolve, invoke, builtin, Sem.run_bind, Sem.run_pure, Result.andThen_ok, List.map_toArray, List.map_cons, List.map_nil, e1, e2, hrun]; rfl, fun _ _ => ⟨rfl, by decide⟩⟩
theorem freeze_heap (w : World) (b n k : Nat) (h : k ≠ b) : (w.freeze ⟨b, 0, none⟩ n).heap[k]? = w.heap[k]? := by
  unfold World.freeze
  split
  · rfl
  · simp only [Array.getElem?_modify]
    rw [if_neg (fun e => h e.symm)]
theorem freeze_rest (w : World) (b n : Nat) : (w.freeze ⟨b, 0, none⟩ n).os = w.os ∧ (w.freeze ⟨b, 0, none⟩ n).tape = w.tape ∧ (w.freeze ⟨b, 0, none⟩ n).output = w.output ∧ (w.freeze ⟨b, 0, none⟩ n).heap.size = w.heap.size := by
  unfold World.freeze
  split
  · exact ⟨rfl, rfl, rfl, rfl⟩
  · exact ⟨rfl, rfl, rfl, by simp⟩
theorem str_get {w : World} {y : Ys} {b : Nat} : ∀ {l : List UInt8} {off : Nat} {vs : List Value}, PVs (l.flatMap rC) vs w y → cellsAt w b off vs → ∀ (j : Nat) (x : UInt8), l[j]? = some x → w.cell? ⟨b, off + j, none⟩ = some (.int .u8 (x.toNat : Int))
  | [], off, vs, _, _, j, x, hj => by simp at hj
  | c :: l, off, [], h, _, _, _, _ => by simp [rC, PVs] at h
  | c :: l, off, v :: vs, h, hc, j, x, hj => by
    have h' : (v.oneCell' = true ∧ (PV.int .u8 (c.toNat : Int)).p v w y) ∧ PVs (l.flatMap rC) vs w y := h
    obtain ⟨⟨_, hv, hr⟩, h2⟩ := h'
    cases j with
    | zero =>
      have h3 := hc.1
      rw [hv] at h3
      simp at hj
      subst hj
      simpa using h3
    | succ j =>
      have := str_get h2 hc.2 j x (by simpa using hj)
      rw [show off + (j + 1) = off + 1 + j by omega]; exact this
/-- A row of bytes is told as a string, and is of no further use. -/
theorem o_unsafeString {pt it e : TypeId} {a : Anc} {l : List UInt8} {xi d' : Nat} (n : Nat) (hp : P.underlying pt = some (.pointer e)) (hc1 : Nat.beq (P.cellsOf e) 1 = true) (hl : l ≠ []) (hy : Opd y qs (.pv (.int .i64 (l.length : Int)))) :
    OpC P ⟨some d', .call { callee := .builtin .unsafeString, args := #[.tmp xi, y], argTypes := #[pt, it] }, ty, pos, af, g⟩ ⟨(xi, .adr a 0) :: qs, [(n, .ob a (rowH e 1 rC l))], .pv (.bs l), [(n, RS.hp (HP.star []))]⟩ := fun act w F K Q hw hps hr ht => by
  obtain ⟨xs, h1, h2, h3⟩ := hr (n, .ob a (rowH e 1 rC l)) (by simp)
  have e1 : act.eval (.tmp xi) = shift 0 (a.v (Act.tau act)) := hps (xi, .adr a 0) (by simp)
  have e2 := (hy act w (U F) (fun z hz => hps z (by simp [hz]))).1
  have hpos : 0 < l.length := List.length_pos_iff.2 hl
  have hown := h1
  rcases h1.2 with ⟨_, h0⟩ | ⟨b, cap, cur, ev, _, hg, hnc, hcm, hcs, htake⟩
  · omega
  · have hcell := (by
      obtain ⟨ad, cap', e3, _, _, h6⟩ := row_shape hown
      rcases h6 with h6 | ⟨b', hb', h7, h8⟩
      · omega
      · rw [ev] at h7
        simp only [Value.ownBlock, Option.some.injEq] at h7
        subst h7
        exact h8 : cellsAt w b 0 xs)
    have hFb : F n b := (h3 b).2 (by rw [ev]; rfl)
    have hrun := run_unsafeString_row (P := P) w pt it ty e hp (Nat.eq_of_beq_eq_true hc1) b cur.size (by simp [World.shape?, hg]) l hl (by rw [hcs]; omega) (by unfold maxLen at hcm; omega) (fun j x hj => by
      have := str_get h2 hcell j x hj
      rw [show (⟨b, 0, none⟩ : Addr).add j = ⟨b, 0 + j, none⟩ by unfold Addr.add; split; (· rename_i hh; simp [hh]); · rfl]
      exact this)
    have e3 : act.eval (.tmp xi) = .pointer (some ⟨b, 0, none⟩) := by rw [e1, ev]; simp [shift]
    have hrun' : (execOp act.eval ⟨some d', .call { callee := .builtin .unsafeString, args := #[.tmp xi, y], argTypes := #[pt, it] }, ty, pos, af, g⟩).run P w = .ok (.value (.string ⟨l.toArray⟩)) (w.freeze ⟨b, 0, none⟩ l.length) := by
      simp only [execOp, resolve, invoke, builtin, Sem.run_bind, Sem.run_pure, Result.andThen_ok, List.map_toArray, List.map_cons, List.map_nil, e3, e2, hrun]
    simp only [Oper.wp, hrun', Oper.upon]
    obtain ⟨f1, f2, f3, f4⟩ := freeze_rest w b l.length
    refine ht _ _ (fun m => if m = n then fun _ => False else F m) ⟨fun i j b' hi hj => ?_, fun i b' hi => ?_⟩ ⟨f1, f2, f3, by rw [f4]; exact Nat.le_refl _, fun b' hb' hn => ?_, fun m hm => ?_, fun m hm b' hb' => ?_⟩ ⟨rfl, ?_⟩ ?_
    · by_cases e4 : i = n
      · simp only [e4, if_true] at hi
      · by_cases e5 : j = n
        · simp only [e5, if_true] at hj
        · simp only [e4, e5, if_false] at hi hj; exact hw.dis i j b' hi hj
    · by_cases e4 : i = n
      · simp only [e4, if_true] at hi
      · simp only [e4, if_false] at hi; rw [f4]; exact hw.bd i b' hi
    · exact freeze_heap w b l.length b' (fun e => hn n (by simp [CD.W]) (e ▸ hFb))
    · have e4 : ¬ m = n := fun e => hm (by simp [CD.W, e])
      simp only [e4, if_false]
    · have e4 : m = n := by simpa [CD.W] using hm
      simp only [e4, if_true] at hb'
    · rw [size_mk]; unfold maxLen at *; omega
    · intro z hz
      simp only [List.mem_singleton] at hz
      subst hz
      intro b' hb'
      simp only [if_true] at hb'
end
end Go.Gm
