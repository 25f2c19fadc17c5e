/- Walks: what is told of internal/bytealg; going over texts; arrays. No condition. -/
import Derived.Test.YtpjjmolibanakaaDoorLibW
import Derived.Lib.Bytealg
import Derived.Lib.MakeNoZero
import Derived.Laws.RangeAny

namespace Go.Gm
set_option linter.unusedVariables false
set_option linter.unusedSimpArgs false
theorem indexByte_lt (c : UInt8) : ∀ l : List UInt8, Lib.indexByte l c < l.length ∧ -1 ≤ Lib.indexByte l c
  | [] => by simp [Lib.indexByte]
  | b :: l => by
    have ih := indexByte_lt c l
    unfold Lib.indexByte
    rw [List.length_cons]
    split
    · omega
    · split
      · omega
      · omega
section
variable {P : Program} {d : Option Nat} {t ty : TypeId} {pos : String} {af : Array Edge} {g : Option (Nat × Bool)} {x y : Operand} {ps qs : List (Nat × SF)}
theorem o_indexByte {f : FuncId} {fn : Func} {tys : Array TypeId} {l : List UInt8} {c : Int} (hf : P.funcs[f]? = some fn) (hname : (fn.name == "runtime.NumGoroutine") = false) (hb : fn.body.isNone = true) (hn : Extern.findNext fn = none) (he : Extern.find fn = some Extern.BytealgIndexByte.indexByte) (hx : Opd x ps (.pv (.bs l))) (hy : Opd y qs (.pv (.int .u8 c))) :
    OpC P ⟨d, .call { callee := .value (.func f), args := #[x, y], argTypes := tys }, ty, pos, af, g⟩ ⟨ps ++ qs, [], .pv (.int .i64 (Lib.indexByte l (toB c))), []⟩ :=
  OpC.pure fun a w yy hp => by
    have e1 := hx a w yy hp.left
    have e3 := (hy a w yy hp.right).1
    have hc := run_callFunc_extern (P := P) hf hname hb hn he #[.string ⟨l.toArray⟩, .int .u8 c] w
    have e2 : a.eval (.func f) = .func (.func f) #[] #[] := rfl
    rw [Lib.run_indexByteString] at hc
    refine ⟨.int .i64 (Lib.indexByte l (toB c)), ?_, fun _ _ => ⟨rfl, ?_⟩⟩
    · simpa [execOp, resolve, e1.1, e3, e2, Deferred.ofValue, invoke, toB] using hc
    · have h1 := indexByte_lt (toB c) l
      have h2 := e1.2
      rw [size_mk] at h2
      unfold maxLen at h2
      simp [inR, IntKind.min, IntKind.max, IntKind.signed, IntKind.bits]; omega
end
end Go.Gm

namespace Go.Gm
set_option linter.unusedVariables false
set_option linter.unusedSimpArgs false
section
variable {P : Program} {d : Option Nat} {t ty : TypeId} {pos : String} {af : Array Edge} {g : Option (Nat × Bool)} {x y : Operand} {ps qs : List (Nat × SF)} {l : List UInt8} {k : Nat}
end
end Go.Gm

namespace Go.Gm
set_option linter.unusedVariables false
set_option linter.unusedSimpArgs false
theorem flat_one {α : Type} (f : α → PV) : ∀ l : List α, l.flatMap (fun x => [f x]) = l.map f
  | [] => rfl
  | x :: l => by rw [List.flatMap_cons, flat_one f l]; rfl
section
variable {P : Program} {d : Option Nat} {t t' ty : TypeId} {pos : String} {af : Array Edge} {g : Option (Nat × Bool)} {x y : Operand} {ps qs : List (Nat × SF)} {k : IntKind} {i : Int} {T : TypeId} {α : Type} {f : α → PV} {l : List α} {u : Value}
theorem pt_arrB' {T : TypeId} {f : α → PV} {l : List α} {an : Anc} (τ : Tau) (w : World) (fb y : Ys) (h : (RS.pt an T (l.map fun x => CF.pv (f x))).holds τ w fb y) : (RS.ob an (arrB T f l)).holds τ w fb y := by
  obtain ⟨b, vs, e, h1, h2, h3⟩ := pt_open h
  have : (RS.pt (.val (an.v τ)) T (l.map fun x => CF.pv (f x))).holds tau0 w fb y := by
    refine RS.closed (r := RS.pt (.val (an.v τ)) T (l.map fun x => CF.pv (f x))) (by simp [RS.deps, Anc.deps, cdeps_map]) (?_ : RS.holds τ w fb y (RS.pt (.val (an.v τ)) T (l.map fun x => CF.pv (f x))))
    exact h
  exact this
theorem arrB_pt' {T : TypeId} {f : α → PV} {l : List α} {an : Anc} (τ : Tau) (w : World) (fb y : Ys) (h : (RS.ob an (arrB T f l)).holds τ w fb y) : (RS.pt an T (l.map fun x => CF.pv (f x))).holds τ w fb y := by
  have h2 : (RS.ob (.val (an.v τ)) (arrB T f l)).holds τ w fb y := h
  exact arrB_pt τ w fb y h2
theorem o_allocA {d' n : Nat} {zv : Value} {z : α} (m : Nat) (hz : P.zeros t = some (List.replicate n zv)) (hf : zCF zv = CF.pv (f z)) :
    OpC P ⟨some d', .alloc t, ty, pos, af, g⟩ ⟨[], [], .same d', [(m, .ob (.slot d') (arrB t f (List.replicate n z)))]⟩ := fun a w F K Q hw hs hp ht =>
  o_alloc (P := P) (d' := d') (ty := ty) (pos := pos) (af := af) (g := g) m hz a w F K Q hw hs hp (fun v w' F' h1 h2 h3 h4 => ht v w' F' h1 h2 h3 (fun q hq => by
    simp only [List.mem_singleton] at hq
    subst hq
    have := h4 (m, .pt (.slot d') t ((List.replicate n zv).map zCF)) (by simp)
    rw [List.map_replicate, hf] at this
    refine pt_arrB' _ _ _ _ ?_
    rw [List.map_replicate]
    exact this))
theorem ld_all (f : α → PV) (l : List α) (sz : Nat) (h : l.length = sz) : ldSF true sz (l.map fun x => CF.pv (f x)) 0 = .agg (l.map fun x => CF.pv (f x)) := by
  simp [ldSF, ← h, List.take_of_length_le]
theorem o_load_all {sz : Nat} {an : Anc} (n : Nat) (hx : AdrOk x ps an 0) (ha : P.aggB t = some true) (hs : (P.info? t).map (·.size) = some sz) (hl : l.length = sz) :
    OpC P ⟨d, .load t x, ty, pos, af, g⟩ ⟨ps, [(n, .ob an (arrB T f l))], .pv (.agg (l.map f)), []⟩ := by
  have := o_load (d := d) (ty := ty) (pos := pos) (af := af) (g := g) (P := P) (cells := l.map fun x => CF.pv (f x)) (T := T) n hx ha hs (by simp [wid, hl]) (by rw [ld_all f l sz hl]; cases d <;> simp [depOk, SF.deps, cdeps_map])
  rw [ld_all f l sz hl] at this
  refine OpC.res (fun a w F K Q hw hs' hp ht => this a w F K Q hw hs' hp (fun v w' F' h1 h2 h3 h4 => ht v w' F' h1 h2 ?_ h4)) arrB_pt' rfl (fun _ _ _ h => h)
  have h5 : Ent (.agg (l.map fun x => CF.pv (f x))) (.pv (.agg (l.map f))) := by
    have := Ent.pagg (l := l.map f)
    rwa [List.map_map] at this
  exact h5 _ _ _ _ h3
theorem st_all (f : α → PV) (l l' : List α) (h : l'.length = l.length) : stCells (l.map fun x => CF.pv (f x)) 0 (l'.map fun x => CF.pv (f x)) = l'.map fun x => CF.pv (f x) := by
  simp [stCells, h]
theorem o_store_all {sz : Nat} {an : Anc} {l' : List α} (n : Nat) (hx : AdrOk x ps an 0) (hy : Opd y qs (.pv (.agg (l'.map f)))) (hs : (P.info? t).map (·.size) = some sz) (hl : l.length = sz) (hl' : l'.length = sz) :
    OpC P ⟨none, .store t x y, ty, pos, af, g⟩ ⟨ps ++ qs, [(n, .ob an (arrB T f l))], .pv .any, [(n, .ob an (arrB T f l'))]⟩ := by
  have hy' : Opd y qs (.agg (l'.map fun x => CF.pv (f x))) := by
    have := hy.conv (Ent.agg (l := l'.map f))
    rwa [List.map_map] at this
  refine OpC.res (o_storeA (cells := l.map fun x => CF.pv (f x)) (T := T) n hx hy' hs (by simp [hl']) (by simp [hl])) arrB_pt' rfl (fun τ w F h => ?_)
  intro z hz
  simp only [List.mem_singleton] at hz
  subst hz
  have := h (n, .pt an T (stCells (l.map fun x => CF.pv (f x)) 0 (l'.map fun x => CF.pv (f x)))) (by simp)
  rw [st_all f l l' (by rw [hl, hl'])] at this
  exact pt_arrB' _ _ _ _ this
/-- A place of an array that is only read. -/
theorem o_indexAddr_refA [Inhabited α] {len e : Nat} (hu : P.underlying t = some (.array len e)) (hs : (P.info? e).map (·.size) = some 1) (hx : Opd x ps (.pv (.ref (l.map f)))) (hy : Opd y qs (.pv (.int k i))) (h0 : 0 ≤ i) (h1 : i < len) (hl : l.length = len) :
    OpC P ⟨d, .indexAddr t x y, ty, pos, af, g⟩ ⟨ps ++ qs, [], .pv (.ref [f (nth l i.toNat)]), []⟩ :=
  OpC.pure fun a w yy hp => by
    obtain ⟨b, off, vs, e1, hy1, hb, hc, hpv⟩ := hx a w yy hp.left
    have e2 := (hy a w yy hp.right).1
    have hv := PVs.pick (R := fun x => [f x]) (sz := 1) (fun _ => rfl) i.toNat (by omega : i.toNat < l.length) (vs := vs) (by rw [flat_one]; exact hpv)
    refine ⟨.pointer (some ⟨b, off + i.toNat * 1, none⟩), ?_, fun _ _ => ⟨b, off + i.toNat * 1, _, rfl, hy1, hb, hc.slice, hv⟩⟩
    simp [execOp, Instr.indexAt, e1, e2, asIntOf, asInt, run_underlying hu, Instr.sureAddr, if_pos (And.intro h0 h1), run_sizeOf hs, add_lit]
end
end Go.Gm

namespace Go.Gm
set_option linter.unusedVariables false
set_option linter.unusedSimpArgs false
def _root_.Go.Program.fieldTO (P : Program) (s : TypeId) (f : Nat) : Option (TypeId × Nat) := match P.underlying s with
  | some (.struct fs) => match fs[f]? with
    | some fd => some (fd.type, fd.offset)
    | none => none
  | _ => none
theorem PVs.at {w y} : ∀ {l : List PV} {vs : List Value} {k : Nat} {p : PV}, PVs l vs w y → l[k]? = some p → ∃ v, vs[k]? = some v ∧ p.p v w y
  | [], _, _, _, _, h => by simp at h
  | q :: l, [], _, _, h, _ => h.elim
  | q :: l, v :: vs, 0, p, h, hk => by
    simp at hk; subst hk
    exact ⟨v, rfl, h.1.2⟩
  | q :: l, v :: vs, k + 1, p, h, hk => by
    obtain ⟨u, h1, h2⟩ := PVs.at h.2 (by simpa using hk)
    exact ⟨u, by simpa using h1, h2⟩
section
variable {P : Program} {d : Option Nat} {t ty : TypeId} {pos : String} {af : Array Edge} {g : Option (Nat × Bool)} {x : Operand} {ps : List (Nat × SF)}
theorem run_field {f : Nat} {ft : TypeId} {off : Nat} (h : P.fieldTO t f = some (ft, off)) (vs : Array Value) (w : World) : (Instr.field t (.agg vs) f).run P w = (part ft vs off).run P w := by
  unfold Program.fieldTO at h
  split at h
  · rename_i fs hu
    split at h
    · rename_i fd hf
      simp only [Option.some.injEq, Prod.mk.injEq] at h
      obtain ⟨rfl, rfl⟩ := h
      simp [Instr.field, run_underlying hu, hf, asAgg]
    · cases h
  · cases h
/-- A field of one cell. -/
theorem o_field1 {f : Nat} {ft : TypeId} {off : Nat} {l : List PV} {p : PV} (h : P.fieldTO t f = some (ft, off)) (ha : P.aggB ft = some false) (hx : Opd x ps (.pv (.agg l))) (hl : l[off]? = some p) :
    OpC P ⟨d, .field t x f, ty, pos, af, g⟩ ⟨ps, [], .pv p, []⟩ :=
  OpC.pure fun a w yy hp => by
    obtain ⟨vs, e1, hv⟩ := hx a w yy hp
    obtain ⟨v, h1, h2⟩ := PVs.at hv hl
    refine ⟨v, ?_, fun _ _ => h2⟩
    simp [execOp, e1, run_field h, part, run_isAgg ha, h1]
end
end Go.Gm

namespace Go.Gm
set_option linter.unusedVariables false
set_option linter.unusedSimpArgs false
section
variable {P : Program} {d : Option Nat} {ty : TypeId} {pos : String} {af : Array Edge} {g : Option (Nat × Bool)} {ps : List (Nat × SF)} {x : Operand} {α : Type} {R : α → List PV} {l : List α}
end
end Go.Gm

namespace Go.Gm
set_option linter.unusedVariables false
set_option linter.unusedSimpArgs false
inductive ChainN (P : Program) (ops : Array Oper) : En → List Oper → List CD → En → Prop
  | nil {E : En} : ChainN P ops E [] [] E
  | cons {E : En} {o : Oper} {c : CD} {l : List Oper} {cs : List CD} {E' : En} (hc : Cert P ops o c) (hs : Looks E.s c.ps) (hr : Looks E.r c.pr)
      (t : ChainN P ops (E.step o c) l cs E') : ChainN P ops E (o :: l) (c :: cs) E'
  | norm {E : En} {l : List Oper} {cs : List CD} {E' : En} (L : List (Nat × SF)) (R : List (Nat × RS)) (hL : Looks E.s L) (hR : Looks E.r R) (t : ChainN P ops ⟨L, R⟩ l cs E') : ChainN P ops E l cs E'
section
variable {P : Program} {ops : Array Oper} {Q : Exit → Act → World → Prop}
end
end Go.Gm

namespace Go.Gm
open Go.Lib
set_option linter.unusedVariables false
set_option linter.unusedSimpArgs false
section
variable {P : Program} {d : Option Nat} {t ty : TypeId} {pos : String} {af : Array Edge} {g : Option (Nat × Bool)} {x y : Operand} {ps qs : List (Nat × SF)} {T : TypeId}
end
end Go.Gm
