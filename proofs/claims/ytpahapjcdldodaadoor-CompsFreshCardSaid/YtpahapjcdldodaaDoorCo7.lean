/- Components: laws of operations. No condition beyond those that each theorem says. -/
import Derived.Test.YtpahapjcdldodaaDoorCo6
namespace Go.Proofs.YtpahapjcdldodaaDoor
open Go Go.Gm
set_option linter.unusedVariables false
set_option linter.unusedSimpArgs false
set_option maxHeartbeats 4000000
set_option maxRecDepth 8000


/-- An operation at a struct of which a part was made in the region. -/
theorem o_aggFn {P : Program} {o : Oper} {i j : Nat} {ps : List (Nat × SF)} {pr qr : List (Nat × RS)} {p : Value → PV} {cs0 : List CF} {cs : Value → List CF} (hd : (o.dst == some j) = false) (hcs : ∀ τ w y vs, CFs τ w y cs0 vs → CFs τ w y (cs (τ j)) vs) (h : ∀ z, Go.Gm.OpC P o ⟨(i, .agg (cs z)) :: ps, pr, .pv (p z), qr⟩) :
    Go.Gm.OpC P o ⟨(i, .agg cs0) :: ps, pr, .fn j p, qr⟩ := fun a w F K Q hw hp hr ht => by
  obtain ⟨vs, e1, h1⟩ := hp (i, .agg cs0) (by simp)
  refine h (Act.tau a j) a w F K Q hw (fun x hx => ?_) hr (fun v w' F' g1 g2 g3 g4 => ht v w' F' g1 g2 ?_ g4)
  · rcases List.mem_cons.1 hx with rfl | hx
    · exact ⟨vs, e1, hcs _ _ _ _ h1⟩
    · exact hp x (by simp [hx])
  · show (p (upd (Act.tau a) o.dst v j)).p v w' (U F')
    rw [upd_ne hd]; exact g3
theorem o_aggOb {P : Program} {o : Oper} {i j m : Nat} {ps : List (Nat × SF)} {pr : List (Nat × RS)} {q : SF} {a : Anc} {g : Value → Value → HP} {cs0 : List CF} {cs : Value → List CF} (hd : (o.dst == some j) = false) (hcs : ∀ τ w y vs, CFs τ w y cs0 vs → CFs τ w y (cs (τ j)) vs) (h : ∀ z, Go.Gm.OpC P o ⟨ps ++ [(i, .agg (cs z))], pr, q, [(m, .ob a (g z))]⟩) :
    Go.Gm.OpC P o ⟨ps ++ [(i, .agg cs0)], pr, q, [(m, .obf j a g)]⟩ := fun act w F K Q hw hp hr ht => by
  obtain ⟨vs, e1, h1⟩ := hp (i, .agg cs0) (by simp)
  refine h (Act.tau act j) act w F K Q hw (fun x hx => ?_) hr (fun v w' F' g1 g2 g3 g4 => ht v w' F' g1 g2 g3 fun x hx => ?_)
  · rcases List.mem_append.1 hx with hx | hx
    · exact hp x (by simp [hx])
    · simp only [List.mem_singleton] at hx; subst hx
      exact ⟨vs, e1, hcs _ _ _ _ h1⟩
  · simp only [List.mem_singleton] at hx; subst hx
    have h9 := g4 (m, .ob a (g (Act.tau act j))) (by simp)
    show (g (upd (Act.tau act) o.dst v j) (a.v _)).p w' _ _
    rw [upd_ne hd]; exact h9
theorem cfs_mark {p : PV} {j : Nat} : ∀ (τ : Tau) (w : World) (y : Ys) (vs : List Value), CFs τ w y [.pv p, .same j] vs → CFs τ w y [.pv p, .pv (.is (τ j))] vs := fun τ w y vs h => by
  match vs, h with
  | [a, b], h => exact h
/-- A plain answer about one thing that is owned and one that was made in the region. -/
theorem OpC.ent {P : Program} {o : Oper} {ps : List (Nat × SF)} {pr qr : List (Nat × RS)} {q q' : SF} (h : Go.Gm.OpC P o ⟨ps, pr, q, qr⟩) (e : Ent q q') : Go.Gm.OpC P o ⟨ps, pr, q', qr⟩ := fun a w F K Q hw hp hr ht =>
  h a w F K Q hw hp hr (fun v w' F' g1 g2 g3 g4 => ht v w' F' g1 g2 (e _ _ _ _ g3) g4)
theorem Ent.fnC {j : Nat} {p : PV} : Ent (.fn j (fun _ => p)) (.pv p) := fun _ _ _ _ h => h
theorem FnG.ofP22 {P : Program} {f : FuncId} {p1 p2 q : PV} {v1 v2 : Value} {h1 h2 : HP} (hc : FnP P f [p1, p2] q) (hq : ∀ v w y y', q.p v w y → q.p v w y') (hl1 : Lend h1 v1 p1) (hl2 : Lend h2 v2 p2) : FnG P f 2 [.is v1, .is v2] [h1, h2] q (fun _ => [h1, h2]) := fun w F vs hw hle hvs hpr => by
  match vs, hvs with
  | [u1, u2], hvs =>
    have e1 : u1 = v1 := hvs.1.1
    have e2 : u2 = v2 := hvs.2.1.1
    subst e1; subst e2
    have hh1 := hpr 0 _ rfl
    have hh2 := hpr 1 _ rfl
    have hsub : ∀ b, F 0 b → U F b := fun b hb => ⟨0, hb⟩
    have k1 := hl1 w (F 1) (U F) (F 0) hh1 hsub (fun b h1 h0 => by have := hw.dis 0 1 b h0 h1; omega) (fun b hb => hw.bd 1 b hb)
    have k2 := hl2 w (F 2) (U F) (F 0) hh2 hsub (fun b h1 h0 => by have := hw.dis 0 2 b h0 h1; omega) (fun b hb => hw.bd 2 b hb)
    refine (hc w (F 0) [u1, u2] (fun b hb => hw.bd 0 b hb) ⟨k1, k2, trivial⟩).mono ?_
    rintro e w' ⟨t, rfl, a1, a2⟩
    have hk : ∀ b, b < w.heap.size → w'.heap[b]? = w.heap[b]? := a2.block
    have hev : Ev w (U F) w' (U F) := ⟨a2.os, a2.tape, a2.output, a2.size, fun b hb hn => ⟨hk b hb, hn⟩⟩
    refine ⟨t, F, rfl, ⟨hw.dis, fun n b hb => Nat.lt_of_lt_of_le (hw.bd n b hb) a2.size⟩, ⟨a2.os, a2.tape, a2.output, a2.size, fun b hb _ => hk b hb, fun _ _ => rfl, fun n hn b hb => .inl ⟨n, hn, hb⟩⟩, hle, hq _ _ _ _ a1, fun i k hi => ?_⟩
    match i, hi with
    | 0, hi => simp at hi; subst hi; exact h1.st hev (fun b hb => hk b (hw.bd 1 b hb)) hh1
    | 1, hi => simp at hi; subst hi; exact h2.st hev (fun b hb => hk b (hw.bd 2 b hb)) hh2
theorem sameV_c (v1 v2 : Value) (n : Nat) (x z : List Int) : FnG Tryd.prog 52 2 [.is v1, .is v2] [setH v1 n x, setH v2 n z] (.bool (decide (x = z))) (fun _ => [setH v1 n x, setH v2 n z]) := by
  have hc := sameS_c n n x z
  have e : decide (n = n ∧ x = z) = decide (x = z) := by simp
  rw [e] at hc
  exact FnG.ofP22 hc (fun _ _ _ _ h => h) setH_lend setH_lend
theorem arcsV_c (v : Value) (n : Nat) (q : List PairD) (last : List Int) (u z : Int) : FnG Tryd.prog 16 1 [.is v, .int .i64 u, .int .i64 z] [clH v n q last] (.int .i64 (arcsN n q u z)) (fun _ => [clH v n q last]) :=
  FnG.ptrAny (h0 := fun v => clH v n q last) (args := fun v => [.is v, .int .i64 u, .int .i64 z]) (pr := fun v => [clH v n q last]) (q := fun _ => .int .i64 (arcsN n q u z)) (qr := fun v _ => [clH v n q last]) clH_ptr (fun _ => rfl) (fun b => arcs_c b n q last u z) v
theorem addV_c (v : Value) (n : Nat) (q : List PairD) (last : List Int) (u z : Int) (hl : q.length < 1000000) : FnG Tryd.prog 12 1 [.is v, .int .i64 u, .int .i64 z] [clH v n q last] (.int .i64 (stepQ n q ⟨0, u, z⟩).2) (fun _ => [clH v n (stepQ n q ⟨0, u, z⟩).1 (lastD n q last ⟨0, u, z⟩)]) :=
  FnG.ptrAny (h0 := fun v => clH v n q last) (args := fun v => [.is v, .int .i64 u, .int .i64 z]) (pr := fun v => [clH v n q last]) (q := fun _ => .int .i64 (stepQ n q ⟨0, u, z⟩).2) (qr := fun v _ => [clH v n (stepQ n q ⟨0, u, z⟩).1 (lastD n q last ⟨0, u, z⟩)]) clH_ptr (fun _ => rfl) (fun b => add_c b n q last u z hl) v
theorem dropV_c (v : Value) (n : Nat) (q : List PairD) (last : List Int) (u z : Int) : FnG Tryd.prog 13 1 [.is v, .int .i64 u, .int .i64 z] [clH v n q last] (.int .i64 (stepQ n q ⟨1, u, z⟩).2) (fun _ => [clH v n (stepQ n q ⟨1, u, z⟩).1 (lastD n q last ⟨1, u, z⟩)]) :=
  FnG.ptrAny (h0 := fun v => clH v n q last) (args := fun v => [.is v, .int .i64 u, .int .i64 z]) (pr := fun v => [clH v n q last]) (q := fun _ => .int .i64 (stepQ n q ⟨1, u, z⟩).2) (qr := fun v _ => [clH v n (stepQ n q ⟨1, u, z⟩).1 (lastD n q last ⟨1, u, z⟩)]) clH_ptr (fun _ => rfl) (fun b => drop_c b n q last u z) v
/-- What a deed makes of the components. -/
def chS (n : Nat) (q : List PairD) (d : Deed4) (s : CoS) : CoS := if There n d.u ∧ There n d.v then (if (stepQ n q d).2 = 0 then { s with D := touchD n (stepQ n q d).1 d.u (touchD n q d.u s.D), last := lastD n q s.last d } else { s with D := touchD n q d.u s.D }) else s
theorem CoOk.ch {n : Nat} {q q0 : List PairD} {s : CoS} {d : Deed4} (h : CoOk n q q0 s) (hl : CoL n (stepQ n q d).1 (chS n q d s)) : CoOk n (stepQ n q d).1 q0 (chS n q d s) := by
  have hm : (chS n q d s).ms = s.ms := by unfold chS; split <;> (try split) <;> rfl
  have he : (chS n q d s).es = s.es := by unfold chS; split <;> (try split) <;> rfl
  refine ⟨hl, by rw [hm]; exact h.mrk, by rw [hm, he]; exact h.sz, ?_⟩
  by_cases ht : There n d.u ∧ There n d.v
  · by_cases h0 : (stepQ n q d).2 = 0
    · have e : (chS n q d s).D = touchD n (stepQ n q d).1 d.u (touchD n q d.u s.D) := by unfold chS; rw [if_pos ht, if_pos h0]
      rw [e]; exact h.dt.change ht.1 butU_step
    · have e : (chS n q d s).D = touchD n q d.u s.D := by unfold chS; rw [if_pos ht, if_neg h0]
      rw [e, stepQ_same h0]; exact h.dt.touch d.u
  · have e : (chS n q d s).D = s.D := by unfold chS; rw [if_neg ht]
    have e2 : (stepQ n q d).1 = q := by rw [stepQ_out ht]
    rw [e, e2]; exact h.dt
theorem next_chg {n : Nat} {q : List PairD} {d : Deed4} (hv : There n d.v) {on : Bool} (ho : on = decide ((⟨d.u, d.v⟩ : PairD) ∈ (stepQ n q d).1)) : putL (nextQ q n d.u) n d.v on = nextQ (stepQ n q d).1 n d.u := by
  refine up_ext (putL_up (nextQ_up q n d.u) d.v on).1 (nextQ_up _ n d.u).1 fun w => ?_
  rw [mem_putL]
  unfold nextQ
  rw [List.mem_filter, List.mem_filter, mem_range_up, decide_eq_true_eq, decide_eq_true_eq]
  by_cases e : w = d.v
  · subst e
    rw [ho]
    have hv' : 0 ≤ d.v ∧ d.v < n := hv
    simp [hv']
  · have hq : (⟨d.u, w⟩ : PairD) ∈ q ↔ (⟨d.u, w⟩ : PairD) ∈ (stepQ n q d).1 := by
      unfold stepQ
      split
      · split
        · rw [List.mem_append, List.mem_singleton, PairD.mk.injEq]
          exact ⟨.inl, fun h => h.resolve_right fun k => e k.2⟩
        · split
          · exact Iff.rfl
          · exact (List.mem_erase_of_ne fun k => e (PairD.mk.inj k).2).symm
      · exact Iff.rfl
    simp [e, hq]
theorem next_but {n : Nat} {q : List PairD} {d : Deed4} {x : Int} (h : x ≠ d.u) : nextQ q n x = nextQ (stepQ n q d).1 n x := nextQ_congr fun w => butU_step x w h
theorem arcs_pos {n : Nat} {q : List PairD} {u v : Int} (h : There n u ∧ There n v) : decide (0 < arcsN n q u v) = decide ((⟨u, v⟩ : PairD) ∈ q) := by
  unfold arcsN
  rw [if_pos h, decide_eq_decide, ← List.count_pos_iff]
  omega
theorem famL_setp {ps : List Value} {f g : Nat → List Int} {k : Nat} {v : Value} {x : List Int} (hx : x = g k) (h : ∀ j, j < ps.length → j ≠ k → f j = g j) : (famL ps f).set k (v, x) = famL (ps.set k v) g := by
  apply List.ext_getElem (by simp [famL_len])
  intro j h1 h2
  rw [famL_len, List.length_set] at h2
  have a2 : Go.Gm.nth (ps.set k v) j = if k = j then v else Go.Gm.nth ps j := nth_set h2
  rw [List.getElem_set]
  simp only [famL, List.getElem_map, List.getElem_range, a2]
  by_cases e : k = j
  · subst e; simp [hx]
  · simp [e, h j h2 fun e' => e e'.symm]

end Go.Proofs.YtpahapjcdldodaaDoor
