/- The closure. No condition beyond those that each theorem says. -/
import Derived.Test.YtpahapjcdldodaaDoorCk4
namespace Go.Proofs.YtpahapjcdldodaaDoor
open Go Go.Gm
set_option linter.unusedVariables false
set_option linter.unusedSimpArgs false
set_option maxHeartbeats 4000000
set_option maxRecDepth 8000


theorem Ent.sure {c : Prop} {s : SF} (h : c) : Ent s (.when c s) := fun _ _ _ _ k => ⟨fun _ => k, fun n => absurd h n⟩
def rV (v : Value) : List PV := [.is v]
theorem nth_some {α : Type} [Inhabited α] {l : List α} {k : Nat} (h : k < l.length) : l[k]? = some (Go.Gm.nth l k) := by rw [nth_eq h]; exact List.getElem?_eq_getElem h
/-- Rows at pointers. -/
def famL (ps : List Value) (f : Nat → List Int) : List (Value × List Int) := (List.range ps.length).map fun k => (Go.Gm.nth ps k, f k)
def setP (n : Nat) (p : Value × List Int) : HP := setH p.1 n p.2
theorem famL_len (ps : List Value) (f : Nat → List Int) : (famL ps f).length = ps.length := by unfold famL; simp
theorem famL_at {ps : List Value} {f : Nat → List Int} {k : Nat} (h : k < ps.length) : (famL ps f)[k]? = some (Go.Gm.nth ps k, f k) := by unfold famL; simp [h]
theorem famL_congr {ps : List Value} {f g : Nat → List Int} (h : ∀ k, k < ps.length → f k = g k) : famL ps f = famL ps g := by
  unfold famL
  exact List.map_congr_left fun k hk => by rw [h k (List.mem_range.1 hk)]
theorem famL_set {ps : List Value} {f g : Nat → List Int} {k : Nat} {x : List Int} (hx : x = g k) (h : ∀ j, j < ps.length → j ≠ k → f j = g j) : (famL ps f).set k (Go.Gm.nth ps k, x) = famL ps g := by
  apply List.ext_getElem (by simp [famL_len])
  intro j h1 h2
  rw [famL_len] at h2
  rw [List.getElem_set]
  split
  · rename_i e; subst e; simp [famL, hx]
  · rename_i e; simp [famL, h j h2 fun e' => e e'.symm]
theorem nth_append_left {α : Type} [Inhabited α] {a b : List α} {k : Nat} (h : k < a.length) : Go.Gm.nth (a ++ b) k = Go.Gm.nth a k := by rw [nth_eq (by simp; omega), nth_eq h, List.getElem_append_left h]
theorem nth_append_at {α : Type} [Inhabited α] {a : List α} {x : α} : Go.Gm.nth (a ++ [x]) a.length = x := by rw [nth_eq (by simp)]; simp
theorem famL_push (ps : List Value) (v : Value) (f : Nat → List Int) : famL (ps ++ [v]) f = famL ps f ++ [(v, f ps.length)] := by
  unfold famL
  rw [List.length_append, List.length_singleton, List.range_succ, List.map_append, List.map_singleton, nth_append_at]
  congr 1
  exact List.map_congr_left fun k hk => by rw [nth_append_left (List.mem_range.1 hk)]
section
variable {B : Base} {E : En} {a : Act} {w : World} {F : Fp}
/-- Less is owned from now on. -/
theorem Sat.shrink {r r' : RS} (h : Sat B E a w F) (n : Nat) (hl : Go.Gm.look E.r n = some r) (hd : noDeps r'.deps = true) (hr : ∀ τ w f y, r.holds τ w f y → ∃ f' : Ys, (∀ b, f' b → f b) ∧ r'.holds τ w f' y) : ∃ F', Sat B ⟨E.s, (n, r') :: E.r⟩ a w F' := by
  obtain ⟨f', hf, hh⟩ := hr _ _ _ _ (h.r n r hl)
  have hle : ∀ b, U (fun m => if m = n then f' else F m) b → U F b := fun b ⟨m, hm⟩ => by
    by_cases e : m = n
    · simp only [e, if_true] at hm; exact ⟨n, hf b hm⟩
    · simp only [e, if_false] at hm; exact ⟨m, hm⟩
  have hev := Ev.less w hle
  have hsub : ∀ m b, (if m = n then f' else F m) b → F m b := fun m b hm => by
    by_cases e : m = n
    · simp only [e, if_true] at hm; rw [e]; exact hf b hm
    · simp only [e, if_false] at hm; exact hm
  refine ⟨fun m => if m = n then f' else F m, ⟨fun i k b hi hk => h.wf.dis i k b (hsub i b hi) (hsub k b hk), fun i b hi => h.wf.bd i b (hsub i b hi)⟩, h.ev.trans hev, h.n, h.df, fun j s hj => SF.mono hev (fun _ _ => rfl) (h.s j s hj), fun i r2 hi => ?_, fun i b hi => ?_⟩
  · rw [look_cons] at hi
    split at hi
    · rename_i e
      simp only [Option.some.injEq] at hi; subst hi; subst e
      simp only [if_true]
      exact RS.mono hev (fun _ _ => rfl) (fun _ _ => rfl) hh
    · rename_i e
      simp only [show i ≠ n from fun k => e k.symm, if_false]
      exact RS.mono hev (fun _ _ => rfl) (fun _ _ => rfl) (h.r i r2 hi)
  · rw [look_cons]
    split
    · exact ⟨_, rfl⟩
    · exact h.em i b (hsub i b hi)
theorem stars_shrink {α : Type} {g g' : α → HP} {w : World} {y : Ys} (hg : ∀ x f, (g x).p w f y → ∃ f' : Ys, (∀ b, f' b → f b) ∧ (g' x).p w f' y) : ∀ {L : List α} {f : Ys}, stars w y (L.map fun x => RS.hp (g x)) f → ∃ f' : Ys, (∀ b, f' b → f b) ∧ stars w y (L.map fun x => RS.hp (g' x)) f'
  | [], f, h => ⟨f, fun _ h => h, h⟩
  | x :: L, f, ⟨f1, f2, h1, h2, h3, h4, h5⟩ => by
    obtain ⟨g1, k1, k2⟩ := hg x f1 h4
    obtain ⟨g2, m1, m2⟩ := stars_shrink hg h5
    exact ⟨fun b => g1 b ∨ g2 b, fun b hb => (h1 b).2 (hb.imp (k1 b) (m1 b)), g1, g2, fun _ => Iff.rfl, fun b hb hc => h2 b (k1 b hb) (m1 b hc), h3, k2, m2⟩
end
/-- Contracts of rows at whatever pointer. -/
theorem setV_c (v : Value) (n : Nat) (x : List Int) (i : Int) (on : Bool) : FnG Tryd.prog 46 1 [.is v, .int .i64 i, .bool on] [setH v n x] (.bool (!decide (x = putL x n i on))) (fun _ => [setH v n (putL x n i on)]) :=
  FnG.ptrAny (h0 := fun v => setH v n x) (args := fun v => [.is v, .int .i64 i, .bool on]) (pr := fun v => [setH v n x]) (q := fun _ => .bool (!decide (x = putL x n i on))) (qr := fun v _ => [setH v n (putL x n i on)]) setH_ptr (fun _ => rfl) (fun b => setS_c b n x i on) v
theorem orV_c (v : Value) (n : Nat) (x : List Int) (m : Nat) (z : List Int) : FnG Tryd.prog 49 1 [.is v, setR m z] [setH v n x] (.bool (!decide (x = orL x n z))) (fun _ => [setH v n (orL x n z)]) :=
  FnG.ptrAny (h0 := fun v => setH v n x) (args := fun v => [.is v, setR m z]) (pr := fun v => [setH v n x]) (q := fun _ => .bool (!decide (x = orL x n z))) (qr := fun v _ => [setH v n (orL x n z)]) setH_ptr (fun _ => rfl) (fun b => or_c b n x m z) v
theorem minusV_c (v : Value) (n : Nat) (x : List Int) (m : Nat) (z : List Int) : FnG Tryd.prog 71 1 [.is v, setR m z] [setH v n x] (.bool (!decide (x = minusL x z))) (fun _ => [setH v n (minusL x z)]) :=
  FnG.ptrAny (h0 := fun v => setH v n x) (args := fun v => [.is v, setR m z]) (pr := fun v => [setH v n x]) (q := fun _ => .bool (!decide (x = minusL x z))) (qr := fun v _ => [setH v n (minusL x z)]) setH_ptr (fun _ => rfl) (fun b => minus_c b n x m z) v
theorem listV_c (v : Value) (n : Nat) (x : List Int) : FnG Tryd.prog 54 1 [.is v] [setH v n x] (.sl rInt x) (fun _ => [setH v n x]) :=
  FnG.ptrAny (h0 := fun v => setH v n x) (args := fun v => [.is v]) (pr := fun v => [setH v n x]) (q := fun _ => .sl rInt x) (qr := fun v _ => [setH v n x]) setH_ptr (fun _ => rfl) (fun b => listG_c b n x) v
/-- How often arcs are there. -/
def CntQ (q : List PairD) (es : List (GE PairD Int)) : Prop := GNd es ∧ ∀ p, gGet p es = if q.count p = 0 then none else some ((q.count p : Nat) : Int)
theorem CntQ.get {q : List PairD} {es : List (GE PairD Int)} (h : CntQ q es) (p : PairD) : (gGet p es).getD 0 = ((q.count p : Nat) : Int) := by
  rw [h.2 p]; split
  · rename_i e; rw [e]; rfl
  · rfl
theorem CntQ.inc {q : List PairD} {es : List (GE PairD Int)} {ck : Nat} {p : PairD} (h : CntQ q es) : CntQ (q ++ [p]) (gSet p (((q.count p : Nat) : Int) + 1) (gEns 0 p (es, ck)).1) := by
  refine ⟨(h.1.ens (s := (es, ck))).set, fun p' => ?_⟩
  rw [gGet_entry (es, ck)]
  rw [List.count_append, List.count_singleton]
  by_cases e : p' = p
  · subst e; simp
  · have e' : ¬ p = p' := fun h => e h.symm
    simp [e, e', h.2 p']
theorem CntQ.dec {q : List PairD} {es : List (GE PairD Int)} {ck : Nat} {p : PairD} (h : CntQ q es) (h2 : 1 < q.count p) : CntQ (q.erase p) (gSet p (((q.count p : Nat) : Int) - 1) (gEns 0 p (es, ck)).1) := by
  refine ⟨(h.1.ens (s := (es, ck))).set, fun p' => ?_⟩
  rw [gGet_entry (es, ck)]
  by_cases e : p' = p
  · subst e
    rw [if_pos rfl, List.count_erase_self, if_neg (by omega)]
    congr 1; omega
  · rw [if_neg e, List.count_erase_of_ne e, h.2 p']
theorem CntQ.del {q : List PairD} {es : List (GE PairD Int)} {ck : Nat} {p : PairD} {c : Int} (h : CntQ q es) (h2 : q.count p = 1) : CntQ (q.erase p) (gDel p (gSet p c (gEns 0 p (es, ck)).1)) := by
  have hn : GNd (gSet p c (gEns 0 p (es, ck)).1) := (h.1.ens (s := (es, ck))).set
  refine ⟨hn.del, fun p' => ?_⟩
  rw [gGet_del hn]
  by_cases e : p' = p
  · subst e
    rw [if_pos rfl, List.count_erase_self, if_pos (by omega)]
  · rw [if_neg e, gGet_entry (es, ck), if_neg e, List.count_erase_of_ne e, h.2 p']
theorem encP_inj (a b : PairD) (h : encP a = encP b) : a = b := by cases a; cases b; simpa [encP] using h
theorem inR_i32 {x : Int} (h : -2147483648 ≤ x ∧ x ≤ 2147483647) : inR .i32 x := by simpa [inR, IntKind.min, IntKind.max, IntKind.signed, IntKind.bits] using h
theorem wrap_i32 {x : Int} (h : -2147483648 ≤ x ∧ x ≤ 2147483647) : IntKind.wrap .i32 x = x := wrap_id (inR_i32 h)
/-- The closure. -/
structure CloS where
  cv : Value
  nv : Value
  rv : Value
  ns : List Value
  rs : List Value
  es : List (GE PairD Int)
  ck : Nat
structure CloOk (n : Nat) (q : List PairD) (last : List Int) (s : CloS) : Prop where
  ll : last.length ≤ n
  hi : n ≤ 4096
  inn : InN n q
  len : q.length ≤ 1000000
  nl : s.ns.length = n
  rl : s.rs.length = n
  cnt : CntQ q s.es
abbrev mapC (es : List (GE PairD Int)) (ck : Nat) : Value → HP := mapG (fun c : Int => PV.int .i32 c) (fun k : PairD => ∀ x ∈ encP k, inR .i32 x) (kv32 encP) es ck
def cloParts (n : Nat) (q : List PairD) (last : List Int) (s : CloS) (v : Value) : List RS := [.pt (.val v) 71 [.pv (.is s.cv), .pv (.is s.nv), .pv (.is s.rv), .pv (.sl rInt last)], .ob (.val s.cv) (mapC s.es s.ck), .ob (.val s.nv) (rowH 72 1 rV s.ns), .ob (.val s.rv) (rowH 72 1 rV s.rs),
  famS (setP n) (famL s.ns fun k => nextQ q n (k : Int)), famS (setP n) (famL s.rs fun k => reachQ q (k : Int))]
def clH (v : Value) (n : Nat) (q : List PairD) (last : List Int) : HP := .ex fun s : CloS => .and (CloOk n q last s) (.star (cloParts n q last s v))
theorem clH_ptr {v : Value} {n : Nat} {q : List PairD} {last : List Int} {w : World} {f y : Ys} (h : (clH v n q last).p w f y) : ∃ b, v = .pointer (some ⟨b, 0, none⟩) := by
  obtain ⟨s, _, h⟩ := h
  exact HP.star_pt h
theorem clH_ok {v : Value} {n : Nat} {q : List PairD} {last : List Int} {w : World} {f y : Ys} (h : (clH v n q last).p w f y) : n ≤ 4096 ∧ InN n q ∧ q.length ≤ 1000000 := by
  obtain ⟨s, h, _⟩ := h
  exact ⟨h.hi, h.inn, h.len⟩

def reachB (n : Nat) (q : List PairD) (u v : Int) : Bool := decide (There n u ∧ v ∈ reachQ q u)
def rowB (n : Nat) (q : List PairD) (u : Int) : List Int := if There n u then reachQ q u else []
theorem Sat.pushFam {α : Type} {B : Base} {E : En} {a : Act} {w : World} {F : Fp} (g : α → HP) {L : List α} {x : α} (h : Sat B E a w F) (n i : Nat) (hl : Go.Gm.look E.r n = some (famS g L)) (hi : Go.Gm.look E.r i = some (RS.hp (g x))) (hne : Nat.beq n i = false) :
    ∃ F', Sat B ⟨E.s, (n, famS g (L ++ [x])) :: (i, RS.hp (HP.star [])) :: E.r⟩ a w F' := by
  obtain ⟨F', h1⟩ := h.push n i hl hi hne rfl
  have hp : (RS.hp (g x) :: L.map fun x => RS.hp (g x)).Perm ((L ++ [x]).map fun x => RS.hp (g x)) := by
    rw [List.map_append]; exact (List.perm_append_singleton _ _).symm
  have h2 := h1.turn n (r := RS.hp (HP.star (RS.hp (g x) :: L.map fun x => RS.hp (g x)))) (by rw [look_cons, if_pos rfl]) (r' := famS g (L ++ [x])) (fun _ _ _ _ k => stars_perm hp k)
  refine ⟨F', h2.congr (fun _ => rfl) (fun k => ?_)⟩
  simp only [look_cons]
  split
  · rfl
  · split
    · rfl
    · rfl
theorem nextQ_nil (n : Nat) (u : Int) : nextQ [] n u = [] := by unfold nextQ; simp
theorem reachQ_nil (u : Int) : reachQ [] u = [] := by
  have h := (reachQ_spec [] u).2
  rw [List.eq_nil_iff_forall_not_mem]
  intro v hv
  obtain ⟨a, ha⟩ := ((h v).1 hv).last
  cases ha
theorem famL_push' {ps : List Value} {v : Value} {f : Nat → List Int} {x : List Int} (h : x = f ps.length) : famL ps f ++ [(v, x)] = famL (ps ++ [v]) f := by rw [famL_push, h]
theorem CloOk.new {n : Nat} {s : CloS} (hn : n ≤ 4096) (h1 : s.ns.length = n) (h2 : s.rs.length = n) (h3 : s.es = []) : CloOk n [] [] s := ⟨Nat.zero_le _, hn, fun p hp => (by cases hp), Nat.zero_le _, h1, h2, by rw [h3]; exact ⟨List.nodup_nil, fun p => rfl⟩⟩
/-- Rows in the midst. -/
def mixQ (q q' : List PairD) (i k : Nat) : List Int := if k < i then reachQ q' (k : Int) else reachQ q (k : Int)
theorem mix_zero (q q' : List PairD) : mixQ q q' 0 = fun k : Nat => reachQ q (k : Int) := by funext k; unfold mixQ; rw [if_neg (Nat.not_lt_zero k)]
theorem mix_at (q q' : List PairD) (i : Nat) : mixQ q q' i i = reachQ q (i : Int) := by unfold mixQ; rw [if_neg (Nat.lt_irrefl i)]
theorem mix_next (q q' : List PairD) {i : Nat} : reachQ q' (i : Int) = mixQ q q' (i + 1) i := by unfold mixQ; rw [if_pos (Nat.lt_succ_self i)]
theorem mix_other (q q' : List PairD) {i j : Nat} (h : j ≠ i) : mixQ q q' i j = mixQ q q' (i + 1) j := by
  unfold mixQ
  by_cases e : j < i
  · rw [if_pos e, if_pos (by omega)]
  · rw [if_neg e, if_neg (by omega)]
theorem next_add_at {n : Nat} {q : List PairD} {u v : Int} (hv : 0 ≤ v ∧ v < n) : putL (nextQ q n u) n v true = nextQ (q ++ [⟨u, v⟩]) n u := by
  refine up_ext (putL_up (nextQ_up q n u) v true).1 (nextQ_up _ n u).1 fun w => ?_
  rw [mem_putL]
  unfold nextQ
  rw [List.mem_filter, List.mem_filter, mem_range_up, decide_eq_true_eq, decide_eq_true_eq, List.mem_append, List.mem_singleton, PairD.mk.injEq]
  constructor
  · rintro (⟨h1, h2, h3⟩ | ⟨h1, _⟩)
    · exact ⟨h2, .inl h3⟩
    · subst h1; exact ⟨hv, .inr ⟨rfl, rfl⟩⟩
  · rintro ⟨h1, h2 | ⟨_, h2⟩⟩
    · by_cases e : w = v
      · exact .inr ⟨e, rfl, hv⟩
      · exact .inl ⟨e, h1, h2⟩
    · exact .inr ⟨h2, rfl, hv⟩
theorem next_add_no {n : Nat} {q : List PairD} {u v x : Int} (h : x ≠ u) : nextQ q n x = nextQ (q ++ [⟨u, v⟩]) n x := nextQ_congr fun w => by
  rw [List.mem_append, List.mem_singleton, PairD.mk.injEq]
  exact ⟨.inl, fun k => k.resolve_right fun e => h e.1⟩
theorem next_drop_at {n : Nat} {q : List PairD} {u v : Int} (hv : 0 ≤ v ∧ v < n) (h1 : q.count ⟨u, v⟩ = 1) : putL (nextQ q n u) n v false = nextQ (q.erase ⟨u, v⟩) n u := by
  have hno : (⟨u, v⟩ : PairD) ∉ q.erase ⟨u, v⟩ := by
    rw [← List.count_eq_zero, List.count_erase_self]; omega
  refine up_ext (putL_up (nextQ_up q n u) v false).1 (nextQ_up _ n u).1 fun w => ?_
  rw [mem_putL]
  unfold nextQ
  rw [List.mem_filter, List.mem_filter, mem_range_up, decide_eq_true_eq, decide_eq_true_eq]
  by_cases e : w = v
  · subst e
    simp [hno]
  · have e' : (⟨u, w⟩ : PairD) ≠ ⟨u, v⟩ := fun h => e (PairD.mk.inj h).2
    rw [List.mem_erase_of_ne e']
    simp [e]
theorem next_drop_no {n : Nat} {q : List PairD} {u v x : Int} (h : x ≠ u) : nextQ q n x = nextQ (q.erase ⟨u, v⟩) n x := nextQ_congr fun w => by
  rw [List.mem_erase_of_ne fun e => h (PairD.mk.inj e).1]
/-- What an added arc makes of the nodes that are told. -/
def lastQ (n : Nat) (q q' : List PairD) : List Int := otherL (rowsQ q n) (rowsQ q' n)
theorem lastQ_len (n : Nat) (q q' : List PairD) : (lastQ n q q').length ≤ n := by
  unfold lastQ otherL
  rw [rowsQ_len]
  exact otherL_part _ _ _
theorem lastQ_none {n : Nat} {q q' : List PairD} (h : ∀ x, reachQ q x = reachQ q' x) : lastQ n q q' = [] := by
  unfold lastQ
  rw [rowsQ_congr n h]; exact otherL_self _
def lastP (q q' : List PairD) (i : Nat) : List Int := (((List.range i).filter fun k : Nat => !decide (reachQ q (k : Int) = reachQ q' (k : Int))).map fun k : Nat => (k : Int))
theorem lastP_next (q q' : List PairD) (i : Nat) : lastP q q' (i + 1) = lastP q q' i ++ (if reachQ q (i : Int) = reachQ q' (i : Int) then [] else [(i : Int)]) := by
  unfold lastP
  rw [List.range_succ, List.filter_append, List.map_append]
  congr 1
  by_cases h : reachQ q (i : Int) = reachQ q' (i : Int) <;> simp [h]
theorem lastP_len (q q' : List PairD) (i : Nat) : (lastP q q' i).length ≤ i := by
  unfold lastP
  rw [List.length_map]
  exact Nat.le_trans (List.length_filter_le _ _) (by simp)
theorem lastP_all (n : Nat) (q q' : List PairD) : lastP q q' n = lastQ n q q' := by
  unfold lastP lastQ otherL
  rw [rowsQ_len]
  congr 1
  refine List.filter_congr fun k hk => ?_
  rw [rowsQ_nth (List.mem_range.1 hk), rowsQ_nth (List.mem_range.1 hk)]
def lastD (n : Nat) (q : List PairD) (last : List Int) (d : Deed4) : List Int := if (stepQ n q d).2 = 0 then lastQ n q (stepQ n q d).1 else last
/-- What is owned changes under a guard; what is lent stays. -/
theorem Cert.condS {P : Program} {o : Oper} {ops : Array Oper} {ps : List (Nat × SF)} {pr pr' pr2 : List (Nat × RS)} {q : SF} {j sj : Nat} {want β : Bool} (hg : o.guard = some (j, want))
    (hj : (ops[j]?).bind (·.dst) = some sj) (hc : rsClosed pr2 = true) (e1 : β = want → pr' = pr2) (e2 : ¬ β = want → ∀ x ∈ pr2, x ∈ pr) (h : β = want → OpC P o ⟨ps, pr, q, pr'⟩) : Go.Gm.Cert P ops o ⟨(sj, .pv (.bool β)) :: ps, pr, .when (β = want) q, pr2⟩ := fun a w F K Q hw hs hr ht => by
  have hb : Act.tau a sj = .bool β := hs (sj, .pv (.bool β)) (by simp)
  by_cases hβ : β = want
  · have : Region.wanted o (yielded ops a.tmps) = true := by simp [Region.wanted, hg, yielded_bool hj hb, hβ]
    rw [if_pos this]
    have e := e1 hβ; subst e
    exact h hβ a w F K Q hw (fun x hx => hs x (by simp [hx])) hr (fun v w' F' h1 h2 h3 h4 => ht v w' F' h1 h2 ⟨fun _ => h3, fun h => absurd hβ h⟩ h4)
  · have : Region.wanted o (yielded ops a.tmps) = false := by
      simp [Region.wanted, hg, yielded_bool hj hb, hβ]
    rw [this]
    have e := e2 hβ
    exact ht _ w F hw (Stp.any _ w F) ⟨fun h => absurd h hβ, fun _ => rfl⟩ (fun x hx => RS.closed (rsClosed_mem hc hx) (hr x (e x hx)))
theorem pvs_ints_free {w : World} {y y' : Ys} : ∀ {l : List Int} {xs : List Value}, PVs (l.flatMap rInt) xs w y → PVs (l.flatMap rInt) xs w y'
  | [], [], _ => trivial
  | _ :: l, _ :: xs, h => ⟨h.1, pvs_ints_free (l := l) h.2⟩
  | [], _ :: _, h => h.elim
  | _ :: _, [], h => h.elim
theorem rowI_free {T : Nat} {l : List Int} {v : Value} {w : World} {f y y' : Ys} (h : (rowH T 1 rInt l v).p w f y) : (rowH T 1 rInt l v).p w f y' := by
  obtain ⟨xs, h1, h2, h3⟩ := h
  exact ⟨xs, h1, pvs_ints_free h2, h3⟩

end Go.Proofs.YtpahapjcdldodaaDoor
