/- Rows of places, owned and read. No condition beyond those that each theorem says. -/
import Derived.Test.YtpahapjcdldodaaDoorRw1
import Derived.Lib.TrailingZeros
namespace Go.Proofs.YtpahapjcdldodaaDoor
open Go Go.Gm
set_option linter.unusedVariables false
set_option linter.unusedSimpArgs false
set_option maxHeartbeats 4000000
set_option maxRecDepth 8000


/-- math/bits.deBruijn64tab, as its initialiser lays it. -/
def deBrI : List Int := Lib.deBruijn64tab.map fun c : Nat => (c : Int)
def tabP : PV := .ref (deBrI.map fun c => PV.int .u8 c)
def tabV : Value := .pointer (some ⟨0, 0, none⟩)
/-- A row of n places of which those of x are set, and the table that the library reads. -/
def setH (v : Value) (n : Nat) (x : List Int) : HP := .ex fun ws : List Int => .and (IsSet n ws x) (.star [RS.hp (bitsH v n ws), RS.hp (gH tabP tabV)])
/-- .. one that is only read. -/
def setR (n : Nat) (x : List Int) : PV := ⟨fun u w y => (∃ ws, IsSet n ws x ∧ (PV.ref [.int .i64 n, .sl rU64 ws]).p u w y) ∧ tabP.p tabV w y,
  fun h ⟨⟨ws, h1, h2⟩, h3⟩ => ⟨⟨ws, h1, PV.mono _ h h2⟩, PV.mono _ h h3⟩⟩
theorem setH_iff {v : Value} {n : Nat} {x : List Int} {w : World} {f y : Ys} : (setH v n x).p w f y ↔ ∃ ws, IsSet n ws x ∧ (bitsH v n ws).p w f y ∧ tabP.p tabV w y := by
  constructor
  · rintro ⟨ws, h1, h2⟩
    obtain ⟨h3, h4⟩ := (starG rfl).1 h2
    exact ⟨ws, h1, h3, h4⟩
  · rintro ⟨ws, h1, h3, h4⟩
    exact ⟨ws, h1, (starG rfl).2 ⟨h3, h4⟩⟩
theorem setH_ptr {v : Value} {n : Nat} {x : List Int} {w : World} {f y : Ys} (h : (setH v n x).p w f y) : ∃ b, v = .pointer (some ⟨b, 0, none⟩) := by
  obtain ⟨ws, _, h, _⟩ := setH_iff.1 h
  exact (bitsH_ptr h).2
theorem setH_up {v : Value} {n : Nat} {x : List Int} {w : World} {f y : Ys} (h : (setH v n x).p w f y) : n ≤ 65536 ∧ Up n x := by
  obtain ⟨ws, h, _, _⟩ := setH_iff.1 h
  exact ⟨h.ok.hi, h.up⟩
theorem bitsH_free (v : Value) (n : Nat) (ws : List Int) : FreeH (bitsH v n ws) := by
  rintro w f y y' ⟨wv, hI, f1, f2, e1, e2, e3, ⟨b, vs, h1, h2, h3, h4⟩, f3, f4, e4, e5, e6, ⟨xs, h5, h6, h7⟩, h8⟩
  refine ⟨wv, hI, f1, f2, e1, e2, e3, ⟨b, vs, h1, h2, h3, ?_⟩, f3, f4, e4, e5, e6, ⟨xs, h5, ?_, h7⟩, h8⟩
  · generalize vs.toList = us at h4
    match us, h4 with
    | [u1, u2], h4 => exact h4
  · have : ∀ (l : List Int) (us : List Value), PVs (l.flatMap rU64) us w y → PVs (l.flatMap rU64) us w y' := by
      intro l
      induction l with
      | nil =>
        intro us h
        match us, h with
        | [], _ => trivial
      | cons a l ih =>
        intro us h
        match us, h with
        | u :: us, h => exact ⟨h.1, ih us h.2⟩
    exact this _ _ h6
/-- .. where what the table is told by is not owned. -/
theorem setH_lend {v : Value} {n : Nat} {x : List Int} : Lend (setH v n x) v (setR n x) := by
  intro w f y y' h hle hf hb
  obtain ⟨ws, h1, h2, h3⟩ := setH_iff.1 h
  refine ⟨⟨ws, h1, ?_⟩, PV.mono _ (Ev.less w hle) h3⟩
  obtain ⟨wv, hI, f1, f2, e1, e2, e3, ⟨b, vs, k1, k2, k3, k4⟩, f3, f4, e4, e5, e6, ⟨xs, k5, k6, k7⟩, k8⟩ := h2
  refine ⟨b, 0, vs.toList, k1, hf b ((e1 b).2 (.inl ((k3 b).2 rfl))), hb b ((e1 b).2 (.inl ((k3 b).2 rfl))), cellsAt.mk fun j u hj => ?_, ?_⟩
  · simp only [Nat.zero_add]
    simp [World.cell?, k2]
    simpa using hj
  · generalize vs.toList = us at k4
    match us, k4 with
    | [u1, u2], k4 =>
      refine ⟨k4.1, ⟨k4.2.1.1, ?_⟩, trivial⟩
      have e : u2 = wv := k4.2.1.2.1
      subst e
      obtain ⟨ad, cap, e8, h8, h9, h10⟩ := row_shape k5
      refine ⟨ad, cap, e8, h8, h9, ?_⟩
      rcases h10 with h10 | ⟨b', rfl, h11, h12⟩
      · exact .inl (List.eq_nil_of_length_eq_zero h10)
      · have hb' : f b' := (e1 b').2 (.inr ((e4 b').2 (.inl ((k7 b').2 h11))))
        exact .inr ⟨b', 0, xs, rfl, hf b' hb', hb b' hb', h12, PVs.mono (Ev.less w hle) k6⟩
/-- Contracts of words as contracts of places. -/
theorem FnP.ofWords {f : FuncId} {args : List PV} {q : PV} {n : Nat} {x : List Int} (h : ∀ ws, IsSet n ws x → FnPg Tryd.prog tabP tabV f (.ref [.int .i64 n, .sl rU64 ws] :: args) q) : FnP Tryd.prog f (setR n x :: args) q := fun w y vs hy hv => by
  match vs, hv with
  | u :: us, hv =>
    obtain ⟨⟨ws, h1, h2⟩, h3⟩ := hv.1
    exact h ws h1 w y (u :: us) hy h3 ⟨h2, hv.2⟩
theorem FnP.ofWords2 {f : FuncId} {args : List PV} {q : PV} {n m : Nat} {x z : List Int} (h : ∀ ws us, IsSet n ws x → IsSet m us z → FnPg Tryd.prog tabP tabV f (.ref [.int .i64 n, .sl rU64 ws] :: .ref [.int .i64 m, .sl rU64 us] :: args) q) : FnP Tryd.prog f (setR n x :: setR m z :: args) q := fun w y vs hy hv => by
  match vs, hv with
  | u :: v :: us, hv =>
    obtain ⟨⟨ws, h1, h2⟩, h3⟩ := hv.1
    obtain ⟨⟨us', h4, h5⟩, h6⟩ := hv.2.1
    exact h ws us' h1 h4 w y (u :: v :: us) hy h3 ⟨h2, h5, hv.2.2⟩
theorem stp_tab {W : List Nat} {w w' : World} {F F' : Fp} (h : Stp W w F w' F') (k : tabP.p tabV w (U F)) : tabP.p tabV w' (U F') := tabP.mono h.ev k
theorem FnG.ofWords {f : FuncId} {args : List PV} {q : PV} {v : Value} {n : Nat} {x x' : List Int} (h : ∀ ws, IsSet n ws x → ∃ ws', IsSet n ws' x' ∧ FnG Tryd.prog f 1 args [bitsH v n ws] q (fun _ => [bitsH v n ws'])) : FnG Tryd.prog f 1 args [setH v n x] q (fun _ => [setH v n x']) := fun w F vs hw hle hv hp => by
  obtain ⟨ws, h1, h2, h3⟩ := setH_iff.1 (hp 0 _ rfl)
  obtain ⟨ws', h4, hc⟩ := h ws h1
  refine (hc w F vs hw hle hv (fun i k hi => by
    match i, hi with
    | 0, hi => simp at hi; subst hi; exact h2)).mono ?_
  rintro e w' ⟨u, F', rfl, a1, a2, a3, a4, a5⟩
  refine ⟨u, F', rfl, a1, a2, a3, a4, fun i k hi => ?_⟩
  match i, hi with
  | 0, hi => simp at hi; subst hi; exact setH_iff.2 ⟨ws', h4, a5 0 _ rfl, stp_tab a2 h3⟩
/-- .. where the second argument is a row that is only read. -/
theorem FnG.ofWords2 {f : FuncId} {args : List PV} {p1 q : PV} {v : Value} {n m : Nat} {x z x' : List Int} (h : ∀ ws us, IsSet n ws x → IsSet m us z → ∃ ws', IsSet n ws' x' ∧ FnG Tryd.prog f 1 (p1 :: .ref [.int .i64 m, .sl rU64 us] :: args) [bitsH v n ws] q (fun _ => [bitsH v n ws'])) : FnG Tryd.prog f 1 (p1 :: setR m z :: args) [setH v n x] q (fun _ => [setH v n x']) := fun w F vs hw hle hv hp => by
  obtain ⟨ws, h1, h2, h3⟩ := setH_iff.1 (hp 0 _ rfl)
  match vs, hv with
  | u1 :: u2 :: us, hv =>
    obtain ⟨⟨zs, k1, k2⟩, _⟩ := hv.2.1
    obtain ⟨ws', h4, hc⟩ := h ws zs h1 k1
    refine (hc w F (u1 :: u2 :: us) hw hle ⟨hv.1, k2, hv.2.2⟩ (fun i k hi => by
      match i, hi with
      | 0, hi => simp at hi; subst hi; exact h2)).mono ?_
    rintro e w' ⟨u, F', rfl, a1, a2, a3, a4, a5⟩
    refine ⟨u, F', rfl, a1, a2, a3, a4, fun i k hi => ?_⟩
    match i, hi with
    | 0, hi => simp at hi; subst hi; exact setH_iff.2 ⟨ws', h4, a5 0 _ rfl, stp_tab a2 h3⟩
theorem FnG.newSet {f : FuncId} {args : List PV} {q : PV} {n : Nat} {ws x : List Int} (hs : IsSet n ws x) (h : FnG Tryd.prog f 1 args [HP.star []] q (fun v => [bitsH v n ws])) : FnG Tryd.prog f 1 args [gH tabP tabV] q (fun v => [setH v n x]) := fun w F vs hw hle hv hp => by
  obtain ⟨h1, h2⟩ := hp 0 _ rfl
  refine (h w F vs hw hle hv (fun i k hi => by
    match i, hi with
    | 0, hi => simp at hi; subst hi; exact h1)).mono ?_
  rintro e w' ⟨u, F', rfl, a1, a2, a3, a4, a5⟩
  refine ⟨u, F', rfl, a1, a2, a3, a4, fun i k hi => ?_⟩
  match i, hi with
  | 0, hi => simp at hi; subst hi; exact setH_iff.2 ⟨ws, hs, a5 0 _ rfl, stp_tab a2 h2⟩
/-- The table's fact, out of a row. -/
theorem Sat.tabOf {B : Base} {E : En} {a : Act} {w : World} {F : Fp} {v : Value} {n : Nat} {x : List Int} (h : Sat B E a w F) (i m : Nat) (hi : Go.Gm.look E.r i = some (RS.hp (setH v n x))) (hm : Go.Gm.look E.r m = none) : Sat B ⟨E.s, (m, RS.hp (gH tabP tabV)) :: E.r⟩ a w F := by
  have hF : ∀ b, ¬ F m b := fun b hb => by obtain ⟨r, hr⟩ := h.em m b hb; rw [hm] at hr; cases hr
  have hs : (setH v n x).p w (F i) (U F) := h.r i _ hi
  obtain ⟨_, _, _, hg⟩ := setH_iff.1 hs
  refine h.repart F (fun _ => Iff.rfl) h.wf.dis (fun k r hk => ?_) (fun k b hb => ?_)
  · rw [look_cons] at hk
    split at hk
    · rename_i e
      simp only [Option.some.injEq] at hk; subst hk; subst e
      exact ⟨hF, hg⟩
    · exact h.r k r hk
  · rw [look_cons]
    split
    · exact ⟨_, rfl⟩
    · exact h.em k b hb
theorem setH_free {v v' : Value} {n n' : Nat} {x x' : List Int} {w w' : World} {f0 f y y1 y' : Ys} (h : (setH v n x).p w f0 y) (hev : Ev w y w' y') (k : (setH v' n' x').p w' f y1) : (setH v' n' x').p w' f y' := by
  obtain ⟨_, _, _, h3⟩ := setH_iff.1 h
  obtain ⟨ws, k1, k2, _⟩ := setH_iff.1 k
  exact setH_iff.2 ⟨ws, k1, bitsH_free _ _ _ _ _ _ _ k2, tabP.mono hev h3⟩
/-- The document's answers. -/
def nextL (l : List Int) (i : Int) : Int := (l.find? fun x => decide (i ≤ x)).getD (-1)
def orL (l : List Int) (n : Int) (o : List Int) : List Int := o.foldl (fun l x => putL l n x true) l
def minusL (l o : List Int) : List Int := l.filter fun x => !decide (x ∈ o)
def andL (l o : List Int) : List Int := l.filter fun x => decide (x ∈ o)
def movedL (l : List Int) (n k : Int) : List Int := if n ≤ k ∨ k ≤ -n then [] else (l.map (· + k)).filter fun y => decide (0 ≤ y) && decide (y < n)
theorem mem_orL {l o : List Int} {n : Nat} {j : Int} (hl : Up n l) : j ∈ orL l n o ↔ j ∈ l ∨ (j ∈ o ∧ 0 ≤ j ∧ j < n) := by
  unfold orL
  induction o generalizing l with
  | nil => simp
  | cons x o ih =>
    rw [List.foldl_cons, ih (putL_up hl x true), mem_putL]
    by_cases e : j = x
    · subst e
      constructor
      · rintro ((h | h) | h)
        · exact absurd rfl h.1
        · exact .inr ⟨by simp, h.2.2.1, h.2.2.2⟩
        · exact .inr ⟨by simp [h.1], h.2⟩
      · rintro (h | h)
        · have := hl.2 j h; exact .inl (.inr ⟨rfl, rfl, this.1, this.2⟩)
        · exact .inl (.inr ⟨rfl, rfl, h.2.1, h.2.2⟩)
    · simp [e]
theorem orL_up {n : Nat} {l : List Int} (h : Up n l) (o : List Int) : Up n (orL l n o) := by
  unfold orL
  induction o generalizing l with
  | nil => exact h
  | cons x o ih => exact ih (putL_up h x true)
theorem filter_up {n : Nat} {l : List Int} (h : Up n l) (p : Int → Bool) : Up n (l.filter p) := ⟨h.1.filter p, fun i hi => h.2 i (List.mem_filter.1 hi).1⟩
theorem movedL_up {n : Nat} {l : List Int} (h : Up n l) (k : Int) : Up n (movedL l n k) := by
  unfold movedL
  split
  · exact ⟨List.Pairwise.nil, by simp⟩
  · refine ⟨List.Pairwise.filter _ ?_, fun i hi => ?_⟩
    · rw [List.pairwise_map]
      exact h.1.imp fun h => by omega
    · have := (List.mem_filter.1 hi).2
      simpa using this

end Go.Proofs.YtpahapjcdldodaaDoor
