/- The closure: rows looked at anew. No condition beyond those that each theorem says. -/
import Derived.Test.YtpahapjcdldodaaDoorCkA
namespace Go.Proofs.YtpahapjcdldodaaDoor
open Go Go.Gm
set_option linter.unusedVariables false
set_option linter.unusedSimpArgs false
set_option maxHeartbeats 4000000
set_option maxRecDepth 8000


theorem FnG.ofP2 {P : Program} {f : FuncId} {p1 p2 q : PV} {v1 v2 : Value} {h : HP} (hc : FnP P f [p1, p2] q) (hq : ∀ v w y y', q.p v w y → q.p v w y')
    (hl : ∀ w f y y', h.p w f y → (∀ b, y' b → y b) → (∀ b, f b → ¬ y' b) → (∀ b, f b → b < w.heap.size) → p1.p v1 w y' ∧ p2.p v2 w y') : FnG P f 1 [.is v1, .is v2] [h] q (fun _ => [h]) := fun w F vs hw hle hvs hpr => by
  match vs, hvs with
  | [u1, u2], hvs =>
    have e1 : u1 = v1 := hvs.1.1
    have e2 : u2 = v2 := hvs.2.1.1
    subst e1; subst e2
    have hh := hpr 0 _ rfl
    have hsub : ∀ b, F 0 b → U F b := fun b hb => ⟨0, hb⟩
    obtain ⟨k1, k2⟩ := hl w (F 1) (U F) (F 0) hh hsub (fun b h1 h0 => by have := hw.dis 0 1 b h0 h1; omega) (fun b hb => hw.bd 1 b hb)
    refine (hc w (F 0) [u1, u2] (fun b hb => hw.bd 0 b hb) ⟨k1, k2, trivial⟩).mono ?_
    rintro e w' ⟨t, rfl, a1, a2⟩
    have hk : ∀ b, b < w.heap.size → w'.heap[b]? = w.heap[b]? := a2.block
    have hev : Ev w (U F) w' (U F) := ⟨a2.os, a2.tape, a2.output, a2.size, fun b hb hn => ⟨hk b hb, hn⟩⟩
    refine ⟨t, F, rfl, ⟨hw.dis, fun n b hb => Nat.lt_of_lt_of_le (hw.bd n b hb) a2.size⟩, ⟨a2.os, a2.tape, a2.output, a2.size, fun b hb _ => hk b hb, fun _ _ => rfl, fun n hn b hb => .inl ⟨n, hn, hb⟩⟩, hle, hq _ _ _ _ a1, fun i k hi => ?_⟩
    match i, hi with
    | 0, hi => simp at hi; subst hi; exact h.st hev (fun b hb => hk b (hw.bd 1 b hb)) hh
/-- A row that may have been looked at anew: the old one, and the new one. -/
abbrev TRow : Type := (Value × List Int) × Option (Value × List Int)
def setT (n : Nat) (t : TRow) : HP := match t.2 with
  | none => setP n t.1
  | some z => HP.star [RS.hp (setP n t.1), RS.hp (setP n z)]
def curT (t : TRow) : Value × List Int := t.2.getD t.1
def curP (ts : List TRow) : List Value := ts.map fun t => (curT t).1
theorem stars_in {w : World} {y : Ys} : ∀ {rs : List RS} {f : Ys}, stars w y rs f → ∀ r ∈ rs, ∃ f1 : Ys, (∀ b, f1 b → f b) ∧ r.holds tau0 w f1 y
  | [], f, _, r, h => by cases h
  | x :: rs, f, ⟨f1, f2, h1, h2, h3, h4, h5⟩, r, hr => by
    rcases List.mem_cons.1 hr with rfl | hr
    · exact ⟨f1, fun b hb => (h1 b).2 (.inl hb), h4⟩
    · obtain ⟨g, g1, g2⟩ := stars_in h5 r hr
      exact ⟨g, fun b hb => (h1 b).2 (.inr (g1 b hb)), g2⟩
theorem sameT_c (n : Nat) (t : TRow) : FnG Tryd.prog 52 1 [.is t.1.1, .is (curT t).1] [setT n t] (.bool (decide (t.1.2 = (curT t).2))) (fun _ => [setT n t]) := by
  have hc := sameS_c n n t.1.2 (curT t).2
  have e : decide (n = n ∧ t.1.2 = (curT t).2) = decide (t.1.2 = (curT t).2) := by simp
  rw [e] at hc
  refine FnG.ofP2 hc (fun _ _ _ _ h => h) fun w f y y' hh hle hf hb => ?_
  obtain ⟨t1, t2⟩ := t
  cases t2 with
  | none => exact ⟨setH_lend w f y y' hh hle hf hb, setH_lend w f y y' hh hle hf hb⟩
  | some z =>
    obtain ⟨f1, k1, k2⟩ := stars_in hh (RS.hp (setP n t1)) (by simp)
    obtain ⟨f2, m1, m2⟩ := stars_in hh (RS.hp (setP n z)) (by simp)
    exact ⟨setH_lend w f1 y y' k2 hle (fun b h => hf b (k1 b h)) (fun b h => hb b (k1 b h)), setH_lend w f2 y y' m2 hle (fun b h => hf b (m1 b h)) (fun b h => hb b (m1 b h))⟩
theorem Ent.isEq {a b : Value} (h : a = b) : Ent (.pv (.is a)) (.pv (.is b)) := by subst h; exact Ent.refl
theorem PVs_is_free {w : World} {y y' : Ys} : ∀ {l : List Value} {xs : List Value}, PVs (l.flatMap rV) xs w y → PVs (l.flatMap rV) xs w y'
  | [], [], _ => trivial
  | _ :: l, _ :: xs, h => ⟨h.1, PVs_is_free (l := l) h.2⟩
  | [], _ :: _, h => h.elim
  | _ :: _, [], h => h.elim
theorem rowV_free {T : Nat} {l : List Value} {v : Value} {w : World} {f y y' : Ys} (h : (rowH T 1 rV l v).p w f y) : (rowH T 1 rV l v).p w f y' := by
  obtain ⟨xs, h1, h2, h3⟩ := h
  exact ⟨xs, h1, PVs_is_free h2, h3⟩
/-- Rows, of which those of the first i places were looked at anew. -/
structure TsOk (n : Nat) (q q' : List PairD) (rs : List Value) (i : Nat) (ts : List TRow) : Prop where
  len : ts.length = n
  old : ∀ k, k < n → (Go.Gm.nth ts k).1 = (Go.Gm.nth rs k, reachQ q (k : Int))
  cur : ∀ k, k < n → (curT (Go.Gm.nth ts k)).2 = mixQ q q' i k
  rest : ∀ k, k < n → i ≤ k → (Go.Gm.nth ts k).2 = none
def tsOld (ps : List (Value × List Int)) : List TRow := ps.map fun p => (p, none)
theorem famT_start {n : Nat} (ps : List (Value × List Int)) : famS (setT n) (tsOld ps) = famS (setP n) ps := by
  show RS.hp (HP.star ((tsOld ps).map fun x => RS.hp (setT n x))) = _
  unfold tsOld
  rw [List.map_map]; rfl
theorem TsOk.start {n : Nat} {q q' : List PairD} {rs : List Value} (h : rs.length = n) : TsOk n q q' rs 0 (tsOld (famL rs fun k => reachQ q (k : Int))) := by
  have e : ∀ k, k < n → Go.Gm.nth (tsOld (famL rs fun k => reachQ q (k : Int))) k = ((Go.Gm.nth rs k, reachQ q (k : Int)), none) := fun k hk => by
    rw [nth_eq (by unfold tsOld; rw [List.length_map, famL_len]; omega)]
    simp [tsOld, famL]
  refine ⟨by unfold tsOld; rw [List.length_map, famL_len, h], fun k hk => by rw [e k hk], fun k hk => by rw [e k hk, mix_zero]; rfl, fun k hk _ => by rw [e k hk]⟩
theorem TsOk.at {n : Nat} {q q' : List PairD} {rs : List Value} {i : Nat} {ts : List TRow} (h : TsOk n q q' rs i ts) (hi : i < n) : ts[i]? = some ((Go.Gm.nth rs i, reachQ q (i : Int)), none) := by
  rw [nth_some (by rw [h.len]; exact hi)]
  congr 1
  exact Prod.ext (h.old i hi) (h.rest i hi (Nat.le_refl i))
theorem TsOk.keep {n : Nat} {q q' : List PairD} {rs : List Value} {i : Nat} {ts : List TRow} (h : TsOk n q q' rs i ts) (hi : i < n) (e : reachQ q (i : Int) = reachQ q' (i : Int)) : TsOk n q q' rs (i + 1) ts :=
  ⟨h.len, h.old, fun k hk => by
    rw [h.cur k hk]
    by_cases e2 : k = i
    · subst e2; rw [mix_at, ← mix_next, e]
    · exact mix_other q q' e2, fun k hk hle => h.rest k hk (by omega)⟩
theorem nth_set {α : Type} [Inhabited α] {l : List α} {i k : Nat} {x : α} (hk : k < l.length) : Go.Gm.nth (l.set i x) k = if i = k then x else Go.Gm.nth l k := by
  rw [nth_eq (by rw [List.length_set]; exact hk), List.getElem_set]
  split
  · rfl
  · rw [nth_eq hk]
theorem TsOk.put {n : Nat} {q q' : List PairD} {rs : List Value} {i : Nat} {ts : List TRow} (h : TsOk n q q' rs i ts) (hi : i < n) (v : Value) : TsOk n q q' rs (i + 1) (ts.set i ((Go.Gm.nth rs i, reachQ q (i : Int)), some (v, reachQ q' (i : Int)))) := by
  have e : ∀ k, k < n → Go.Gm.nth (ts.set i ((Go.Gm.nth rs i, reachQ q (i : Int)), some (v, reachQ q' (i : Int)))) k = if i = k then ((Go.Gm.nth rs i, reachQ q (i : Int)), some (v, reachQ q' (i : Int))) else Go.Gm.nth ts k := fun k hk => nth_set (by rw [h.len]; exact hk)
  refine ⟨by rw [List.length_set, h.len], fun k hk => ?_, fun k hk => ?_, fun k hk hle => ?_⟩
  · rw [e k hk]
    split
    · rename_i e2; subst e2; rfl
    · exact h.old k hk
  · rw [e k hk]
    split
    · rename_i e2; subst e2; rw [← mix_next]; rfl
    · rename_i e2; rw [h.cur k hk]; exact mix_other q q' fun e3 => e2 e3.symm
  · rw [e k hk, if_neg (by omega)]; exact h.rest k hk (by omega)
theorem curP_len (ts : List TRow) : (curP ts).length = ts.length := List.length_map _
theorem nth_curP {ts : List TRow} {k : Nat} (h : k < ts.length) : Go.Gm.nth (curP ts) k = (curT (Go.Gm.nth ts k)).1 := by
  rw [nth_eq (by rw [curP_len]; exact h), nth_eq h]
  simp [curP]
theorem curP_set {ts : List TRow} {i : Nat} {o : Value × List Int} {v : Value} {x : List Int} : (curP ts).set i v = curP (ts.set i (o, some (v, x))) := by
  unfold curP
  rw [List.map_set]; rfl
theorem curP_old {rs : List Value} {f : Nat → List Int} : curP (tsOld (famL rs f)) = rs := by
  apply List.ext_getElem (by rw [curP_len]; unfold tsOld; rw [List.length_map, famL_len])
  intro j h1 h2
  simp [curP, tsOld, famL, curT, nth_eq h2]
theorem TsOk.all {n : Nat} {q q' : List PairD} {rs : List Value} {ts : List TRow} (h : TsOk n q q' rs n ts) : ts.map curT = famL (curP ts) fun k => reachQ q' (k : Int) := by
  apply List.ext_getElem (by rw [List.length_map, famL_len, curP_len])
  intro j h1 h2
  rw [List.length_map] at h1
  have hj : j < n := by rw [← h.len]; exact h1
  have e : (curT (Go.Gm.nth ts j)).2 = reachQ q' (j : Int) := by rw [h.cur j hj]; unfold mixQ; rw [if_pos hj]
  rw [nth_eq h1] at e
  have e2 := nth_curP (ts := ts) h1
  rw [nth_eq h1] at e2
  simp only [List.getElem_map, famL, List.getElem_range]
  rw [← e, e2]
theorem setT_shrink {n : Nat} {w : World} {y : Ys} (t : TRow) (f : Ys) (h : (setT n t).p w f y) : ∃ f' : Ys, (∀ b, f' b → f b) ∧ (setP n (curT t)).p w f' y := by
  obtain ⟨t1, t2⟩ := t
  cases t2 with
  | none => exact ⟨f, fun _ h => h, h⟩
  | some z =>
    obtain ⟨f2, m1, m2⟩ := stars_in h (RS.hp (setP n z)) (by simp)
    exact ⟨f2, m1, m2⟩
theorem famT_shrink {n : Nat} {ts : List TRow} {ps : List (Value × List Int)} (e : ts.map curT = ps) (τ : Tau) (w : World) (f y : Ys) (h : (famS (setT n) ts).holds τ w f y) : ∃ f' : Ys, (∀ b, f' b → f b) ∧ (famS (setP n) ps).holds τ w f' y := by
  obtain ⟨f', h1, h2⟩ := stars_shrink (g := setT n) (g' := fun t => setP n (curT t)) (fun t f h => setT_shrink t f h) (L := ts) (show stars w y (ts.map fun x => RS.hp (setT n x)) f from h)
  refine ⟨f', h1, ?_⟩
  subst e
  show stars w y ((ts.map curT).map fun x => RS.hp (setP n x)) f'
  rw [List.map_map]
  exact h2
theorem famL_fst (ps : List Value) (f : Nat → List Int) : (famL ps f).map (·.1) = ps := by
  apply List.ext_getElem (by rw [List.length_map, famL_len])
  intro j h1 h2
  simp [famL, nth_eq h2]
theorem famL_snd (ps : List Value) (f : Nat → List Int) : (famL ps f).map (·.2) = (List.range ps.length).map f := by
  unfold famL
  rw [List.map_map]; rfl
theorem pvs_sets {n : Nat} {w : World} {y y' : Ys} : ∀ {ps : List (Value × List Int)} {xs : List Value}, PVs ((ps.map (·.1)).flatMap rV) xs w y → (∀ p ∈ ps, (setR n p.2).p p.1 w y') → PVs ((ps.map (·.2)).flatMap (rSet n)) xs w y'
  | [], [], _, _ => trivial
  | p :: ps, x :: xs, h, hp => by
    have h1 : (x.oneCell' = true ∧ x = p.1 ∧ x.oneCell' = true) ∧ PVs ((ps.map (·.1)).flatMap rV) xs w y := h
    have e : x = p.1 := h1.1.2.1
    exact ⟨⟨h1.1.1, by rw [e]; exact hp p (by simp)⟩, pvs_sets h1.2 fun z hz => hp z (by simp [hz])⟩
  | [], _ :: _, h, _ => h.elim
  | _ :: _, [], h, _ => h.elim
abbrev cloLs (a1 a2 a3 : Nat) (v : Value) (n : Nat) (q : List PairD) (cv nv rv : Value) (ns : List Value) (pl : PV) : List (Nat × RS) := [(a1, .pt (.val v) 71 [.pv (.is cv), .pv (.is nv), .pv (.is rv), .pv pl]), (a2, .ob (.val nv) (rowH 72 1 rV ns)), (a3, famS (setP n) (famL ns fun k => nextQ q n (k : Int)))]
theorem clo_lend {a1 a2 a3 n : Nat} {v : Value} {q : List PairD} {cv nv rv : Value} {ns : List Value} {pl : PV} (hnl : ns.length = n) : ∀ (τ : Tau) (w : World) (F : Fp) (y' : Ys), (∀ x ∈ cloLs a1 a2 a3 v n q cv nv rv ns pl, x.2.holds τ w (F x.1) (U F)) → (∀ b, y' b → U F b) → (∀ x ∈ cloLs a1 a2 a3 v n q cv nv rv ns pl, ∀ b, F x.1 b → ¬ y' b) → (∀ x ∈ cloLs a1 a2 a3 v n q cv nv rv ns pl, ∀ b, F x.1 b → b < w.heap.size) → (PV.ref [.any, .sl (rSet n) (nextsQ q n), .any, .any]).p v w y' := by
  intro τ w F y' hh hle hf hb
  obtain ⟨b, vs, k1, k2, k3, k4⟩ := hh _ (List.mem_cons_self ..)
  have hrow : (rowH 72 1 rV ns nv).p w (F a2) (U F) := hh (a2, .ob (.val nv) (rowH 72 1 rV ns)) (by simp)
  have hfam : stars w (U F) ((famL ns fun k => nextQ q n (k : Int)).map fun x => RS.hp (setP n x)) (F a3) := hh (a3, famS (setP n) (famL ns fun k => nextQ q n (k : Int))) (by simp)
  have hb1 : F a1 b := (k3 b).2 rfl
  refine ⟨b, 0, vs.toList, k1, hf _ (List.mem_cons_self ..) b hb1, hb _ (List.mem_cons_self ..) b hb1, cellsAt.mk fun j u hj => ?_, ?_⟩
  · simp only [Nat.zero_add]
    simp [World.cell?, k2]
    simpa using hj
  · generalize vs.toList = us at k4
    match us, k4 with
    | [u1, u2, u3, u4], k4 =>
      refine ⟨⟨k4.1.1, trivial⟩, ⟨k4.2.1.1, ?_⟩, ⟨k4.2.2.1.1, trivial⟩, ⟨k4.2.2.2.1.1, trivial⟩, trivial⟩
      have e : u2 = nv := k4.2.1.2.1
      subst e
      obtain ⟨xs, m1, m2, m3⟩ := hrow
      obtain ⟨ad, cap, e8, h8, h9, h10⟩ := row_shape m1
      rw [hnl] at e8 h8
      refine ⟨ad, cap, by rw [nextsQ_len]; exact e8, by rw [nextsQ_len]; exact h8, h9, ?_⟩
      rcases h10 with h10 | ⟨b', rfl, h11, h12⟩
      · exact .inl (List.eq_nil_of_length_eq_zero (by rw [nextsQ_len, ← hnl]; exact h10))
      · have hb' : F a2 b' := (m3 b').2 h11
        refine .inr ⟨b', 0, xs, rfl, hf (a2, .ob (.val u2) (rowH 72 1 rV ns)) (by simp) b' hb', hb (a2, .ob (.val u2) (rowH 72 1 rV ns)) (by simp) b' hb', h12, ?_⟩
        have e2 : nextsQ q n = (famL ns fun k => nextQ q n (k : Int)).map (·.2) := by rw [famL_snd, hnl]; rfl
        rw [e2]
        refine pvs_sets (y := U F) (by rw [famL_fst]; exact m2) fun p hp => ?_
        obtain ⟨f1, g1, g2⟩ := stars_in hfam (RS.hp (setP n p)) (List.mem_map.2 ⟨p, hp, rfl⟩)
        exact setH_lend w f1 (U F) y' g2 hle (fun b h => hf (a3, famS (setP n) (famL ns fun k => nextQ q n (k : Int))) (by simp) b (g1 b h)) (fun b h => hb (a3, famS (setP n) (famL ns fun k => nextQ q n (k : Int))) (by simp) b (g1 b h))
theorem clo_free {a1 a2 a3 n m d : Nat} {v : Value} {q : List PairD} {cv nv rv : Value} {ns : List Value} {pl : PV} {z : List Int} (h0 : 0 < ns.length) : ∀ x ∈ [((m : Nat), RS.ob (.slot d) (fun v => setH v n z))], ∀ (τ τ0 : Tau) (w : World) (F : Fp) (w' : World) (f y1 y' : Ys), (∀ z ∈ cloLs a1 a2 a3 v n q cv nv rv ns pl, z.2.holds τ0 w (F z.1) (U F)) → Ev w (U F) w' y' → x.2.holds τ w' f y1 → x.2.holds τ w' f y' := by
  intro x hx τ τ0 w F w' f y1 y' hh hev hk
  simp only [List.mem_singleton] at hx
  subst hx
  have hfam : stars w (U F) ((famL ns fun k => nextQ q n (k : Int)).map fun x => RS.hp (setP n x)) (F a3) := hh (a3, famS (setP n) (famL ns fun k => nextQ q n (k : Int))) (by simp)
  obtain ⟨f1, g1, g2⟩ := stars_in hfam (RS.hp (setP n (Go.Gm.nth ns 0, nextQ q n ((0 : Nat) : Int)))) (List.mem_map.2 ⟨_, List.mem_of_getElem? (famL_at h0), rfl⟩)
  exact setH_free (show (setH (Go.Gm.nth ns 0) n (nextQ q n ((0 : Nat) : Int))).p w f1 (U F) from g2) hev hk

theorem cloneV_c (l : List Value) (hl : l.length ≤ 1000000) : FnG Tryd.prog 50 1 [.sl rV l] [.star []] (PV.one) (fun v => [rowH 72 1 rV l v]) := by
  refine FnG.mk Tryd.func50 rfl Tryd.ntmps50 rfl (by kernel_rfl) ?_
  intro B F0 a w F hB hG hS
  obtain ⟨F, hS⟩ := hS.nm [0] [0] rfl rfl
  refine wp_seq ?_
  refine region_q hS
    (cF rfl (oN (.c rfl)) trivial trivial
    Chain.nil)
    hB ?_
  clear hS; intro a w F hS
  obtain ⟨F, hS⟩ := hS.nm [2, 0] [0] rfl rfl
  try dsimp only [rV] at hS
  refine then_n (wp_seq (wp_seq ?_))
  refine region_q hS
    (cF rfl (oM .t) r1 trivial
    (cF rfl (o_eql_nilsl Tryd.underlying69 .t) r1 trivial
    Chain.nil))
    hB ?_
  clear hS; intro a w F hS
  obtain ⟨F, hS⟩ := hS.nm [4, 2, 0] [0] rfl rfl
  try dsimp only [rV] at hS
  obtain ⟨β4, hβ4, hS⟩ := hS.pickBool 4 rfl
  obtain ⟨F, hS⟩ := hS.nm [4, 2, 0] [0] rfl rfl
  refine then_n ?_
  refine cond_b hS rfl (fun hc0 => ?_) (fun hc0 => ?_)
  ·skip
   have hg : l = [] := hβ4 hc0
   refine wp_seq ?_
   refine region_q hS
     (cF rfl (oN (.c rfl)) trivial trivial
     Chain.nil)
     hB ?_
   clear hS; intro a w F hS
   obtain ⟨F, hS⟩ := hS.nm [2, 0] [0] rfl rfl
   try dsimp only [rV] at hS
   refine then_n (wp_ret (then_r ?_))
   have hS := hS.fresh 1 rfl
   have hS := hS.turn 1 rfl (nilRow (T := 72) (sz := 1) (R := rV))
   have hS := hS.turn 1 rfl (r' := RS.hp (rowH 72 1 rV l (.slice none 0 0))) (fun _ _ _ _ h => by rw [hg]; exact h)
   refine ret_N1 (h' := fun v => rowH 72 1 rV l v) hG hS rfl (.tmp rfl .nil) (.one .one) rfl
  have hg : l = [] ++ l := rfl
  refine wp_skip (then_n (wp_seq ?_))
  refine region_q hS
    (cF rfl (o_buildSlice0 (R := rV) (sz := 1) 101 Tryd.underlying69 (by kernel_rfl)) trivial trivial
    (cF rfl (oM .t) r1 trivial
    (cF rfl (o_append (sz := 1) (bs := 8) 101 (.mk' Tryd.underlying69 (by kernel_rfl) (by kernel_rfl)) (by intro x; rfl) .same (.sl .t) (by simp only [List.length_append, List.length_nil]; omega) (by decide)) ⟨rfl, rfl, trivial⟩ ⟨rfl, trivial⟩
    (cF rfl (oN .t) r1 trivial
    Chain.nil))))
    hB ?_
  clear hS; intro a w F hS
  replace hS := hS.sub
  obtain ⟨F, hS⟩ := hS.nm [2] [101, 0] rfl rfl
  try dsimp only [RS.sub, SF.sub, CF.sub, csub, Anc.sub, List.map, stCells, xL, xM, Nat.reduceAdd, xD, xE, xT, xU, xC, xN, zCF, rV] at hS
  generalize Act.tau a 7 = v7 at hS
  refine then_n (wp_ret ?_)
  obtain ⟨F, hS⟩ := hS.rename 101 1 rfl rfl
  have hS := hS.turn 1 rfl (r' := RS.hp (rowH 72 1 rV l v7)) (fun _ _ _ _ h => by rw [hg]; exact h)
  refine ret_N1 (h' := fun v => rowH 72 1 rV l v) hG hS rfl (.tmp rfl .nil) (.one .one) rfl

end Go.Proofs.YtpahapjcdldodaaDoor
