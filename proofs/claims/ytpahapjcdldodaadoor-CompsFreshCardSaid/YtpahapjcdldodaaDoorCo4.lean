/- Components: what is only read. No condition beyond those that each theorem says. -/
import Derived.Test.YtpahapjcdldodaaDoorCo3
import Derived.Test.YtpahapjcdldodaaDoorCo2
namespace Go.Proofs.YtpahapjcdldodaaDoor
open Go Go.Gm
set_option linter.unusedVariables false
set_option linter.unusedSimpArgs false
set_option maxHeartbeats 4000000
set_option maxRecDepth 8000


/-- A closure, and components, that are only read. -/
abbrev clF (n : Nat) (q : List PairD) : PV := .ref [.any, .any, .sl (rSet n) (rowsQ q n), .any]
abbrev coF (n : Nat) (q : List PairD) : PV := .ref [clF n q, .sl (rSet n) (nextsQ q n), .any, .any, .any]
theorem clo_read {v : Value} {n : Nat} {q : List PairD} {last : List Int} : Lend (clH v n q last) v (clF n q) := by
  intro w f y y' h hle hf hb
  obtain ⟨s, hk, f1, g1, e1, d1, _, ⟨b, vs, k1, k2, k3, k4⟩, f2, g2, e2, d2, _, _, f3, g3, e3, d3, _, _, f4, g4, e4, d4, _, ⟨xs, m1, m2, m3⟩, f5, g5, e5, d5, _, _, f6, g6, e6, d6, _, hfam, _⟩ := h
  have up4 : ∀ x, f4 x → f x := fun x hx => (e1 x).2 (.inr ((e2 x).2 (.inr ((e3 x).2 (.inr ((e4 x).2 (.inl hx)))))))
  have up6 : ∀ x, f6 x → f x := fun x hx => (e1 x).2 (.inr ((e2 x).2 (.inr ((e3 x).2 (.inr ((e4 x).2 (.inr ((e5 x).2 (.inr ((e6 x).2 (.inl hx)))))))))))
  have hb1 : f b := (e1 b).2 (.inl ((k3 b).2 rfl))
  refine ⟨b, 0, vs.toList, k1, hf b hb1, hb b hb1, cellsAt.mk fun j u hj => ?_, ?_⟩
  · simp only [Nat.zero_add]
    simp [World.cell?, k2]
    simpa using hj
  · generalize vs.toList = us at k4
    match us, k4 with
    | [u1, u2, u3, u4], k4 =>
      refine ⟨⟨k4.1.1, trivial⟩, ⟨k4.2.1.1, trivial⟩, ⟨k4.2.2.1.1, ?_⟩, ⟨k4.2.2.2.1.1, trivial⟩, trivial⟩
      have e : u3 = s.rv := k4.2.2.1.2.1
      rw [e]
      obtain ⟨ad, cap, e8, h8, h9, h10⟩ := row_shape m1
      rw [hk.rl] at e8 h8
      refine ⟨ad, cap, by rw [rowsQ_len]; exact e8, by rw [rowsQ_len]; exact h8, h9, ?_⟩
      rcases h10 with h10 | ⟨b', rfl, h11, h12⟩
      · exact .inl (List.eq_nil_of_length_eq_zero (by rw [rowsQ_len, ← hk.rl]; exact h10))
      · have hb' : f b' := up4 b' ((m3 b').2 h11)
        refine .inr ⟨b', 0, xs, rfl, hf b' hb', hb b' hb', h12, ?_⟩
        have e2 : rowsQ q n = (famL s.rs fun k => reachQ q (k : Int)).map (·.2) := by rw [famL_snd, hk.rl]; rfl
        rw [e2]
        refine pvs_sets (y := y) (by rw [famL_fst]; exact m2) fun p hp => ?_
        obtain ⟨g, g1', g2'⟩ := stars_in (show stars w y ((famL s.rs fun k => reachQ q (k : Int)).map fun x => RS.hp (setP n x)) f6 from hfam) (RS.hp (setP n p)) (List.mem_map.2 ⟨p, hp, rfl⟩)
        exact setH_lend w g y y' g2' hle (fun x hx => hf x (up6 x (g1' x hx))) (fun x hx => hb x (up6 x (g1' x hx)))
abbrev coLs (a1 a2 a3 a4 : Nat) (v : Value) (n : Nat) (q : List PairD) (av nv mv sv dv : Value) (ns : List Value) (last : List Int) : List (Nat × RS) := [(a1, .pt (.val v) 87 [.pv (.is av), .pv (.is nv), .pv (.is mv), .pv (.is sv), .pv (.is dv)]), (a2, RS.hp (clH av n q last)), (a3, .ob (.val nv) (rowH 72 1 rV ns)), (a4, famS (setP n) (famL ns fun k => nextQ q n (k : Int)))]
theorem co_lend {a1 a2 a3 a4 n : Nat} {v : Value} {q : List PairD} {av nv mv sv dv : Value} {ns : List Value} {last : List Int} (hnl : ns.length = n) : ∀ (τ : Tau) (w : World) (F : Fp) (y' : Ys), (∀ x ∈ coLs a1 a2 a3 a4 v n q av nv mv sv dv ns last, x.2.holds τ w (F x.1) (U F)) → (∀ b, y' b → U F b) → (∀ x ∈ coLs a1 a2 a3 a4 v n q av nv mv sv dv ns last, ∀ b, F x.1 b → ¬ y' b) → (∀ x ∈ coLs a1 a2 a3 a4 v n q av nv mv sv dv ns last, ∀ b, F x.1 b → b < w.heap.size) → (coF n q).p v w y' := by
  intro τ w F y' hh hle hf hb
  obtain ⟨b, vs, k1, k2, k3, k4⟩ := hh _ (List.mem_cons_self ..)
  have hcl : (clH av n q last).p w (F a2) (U F) := hh (a2, RS.hp (clH av n q last)) (by simp)
  have hrow : (rowH 72 1 rV ns nv).p w (F a3) (U F) := hh (a3, .ob (.val nv) (rowH 72 1 rV ns)) (by simp)
  have hfam : stars w (U F) ((famL ns fun k => nextQ q n (k : Int)).map fun x => RS.hp (setP n x)) (F a4) := hh (a4, famS (setP n) (famL ns fun k => nextQ q n (k : Int))) (by simp)
  have i2 : ((a2, RS.hp (clH av n q last)) : Nat × RS) ∈ coLs a1 a2 a3 a4 v n q av nv mv sv dv ns last := by simp
  have i3 : ((a3, RS.ob (.val nv) (rowH 72 1 rV ns)) : Nat × RS) ∈ coLs a1 a2 a3 a4 v n q av nv mv sv dv ns last := by simp
  have i4 : ((a4, famS (setP n) (famL ns fun k => nextQ q n (k : Int))) : Nat × RS) ∈ coLs a1 a2 a3 a4 v n q av nv mv sv dv ns last := by simp
  have hb1 : F a1 b := (k3 b).2 rfl
  refine ⟨b, 0, vs.toList, k1, hf _ (List.mem_cons_self ..) b hb1, hb _ (List.mem_cons_self ..) b hb1, cellsAt.mk fun j u hj => ?_, ?_⟩
  · simp only [Nat.zero_add]
    simp [World.cell?, k2]
    simpa using hj
  · generalize vs.toList = us at k4
    match us, k4 with
    | [u1, u2, u3, u4, u5], k4 =>
      refine ⟨⟨k4.1.1, ?_⟩, ⟨k4.2.1.1, ?_⟩, ⟨k4.2.2.1.1, trivial⟩, ⟨k4.2.2.2.1.1, trivial⟩, ⟨k4.2.2.2.2.1.1, trivial⟩, trivial⟩
      · have e : u1 = av := k4.1.2.1
        rw [e]
        exact clo_read w (F a2) (U F) y' hcl hle (fun x hx => hf _ i2 x hx) (fun x hx => hb _ i2 x hx)
      · have e : u2 = nv := k4.2.1.2.1
        rw [e]
        obtain ⟨xs, m1, m2, m3⟩ := hrow
        obtain ⟨ad, cap, e8, h8, h9, h10⟩ := row_shape m1
        rw [hnl] at e8 h8
        refine ⟨ad, cap, by rw [nextsQ_len]; exact e8, by rw [nextsQ_len]; exact h8, h9, ?_⟩
        rcases h10 with h10 | ⟨b', rfl, h11, h12⟩
        · exact .inl (List.eq_nil_of_length_eq_zero (by rw [nextsQ_len, ← hnl]; exact h10))
        · have hb' : F a3 b' := (m3 b').2 h11
          refine .inr ⟨b', 0, xs, rfl, hf _ i3 b' hb', hb _ i3 b' hb', h12, ?_⟩
          have e2 : nextsQ q n = (famL ns fun k => nextQ q n (k : Int)).map (·.2) := by rw [famL_snd, hnl]; rfl
          rw [e2]
          refine pvs_sets (y := U F) (by rw [famL_fst]; exact m2) fun p hp => ?_
          obtain ⟨f1, g1, g2⟩ := stars_in hfam (RS.hp (setP n p)) (List.mem_map.2 ⟨p, hp, rfl⟩)
          exact setH_lend w f1 (U F) y' g2 hle (fun b h => hf _ i4 b (g1 b h)) (fun b h => hb _ i4 b (g1 b h))
theorem co_free {a1 a2 a3 a4 n m d : Nat} {v : Value} {q : List PairD} {av nv mv sv dv : Value} {ns : List Value} {last : List Int} {z : List Int} (h0 : 0 < ns.length) : ∀ x ∈ [((m : Nat), RS.ob (.slot d) (fun v => setH v n z))], ∀ (τ τ0 : Tau) (w : World) (F : Fp) (w' : World) (f y1 y' : Ys), (∀ z ∈ coLs a1 a2 a3 a4 v n q av nv mv sv dv ns last, z.2.holds τ0 w (F z.1) (U F)) → Ev w (U F) w' y' → x.2.holds τ w' f y1 → x.2.holds τ w' f y' := by
  intro x hx τ τ0 w F w' f y1 y' hh hev hk
  simp only [List.mem_singleton] at hx
  subst hx
  have hfam : stars w (U F) ((famL ns fun k => nextQ q n (k : Int)).map fun x => RS.hp (setP n x)) (F a4) := hh (a4, famS (setP n) (famL ns fun k => nextQ q n (k : Int))) (by simp)
  obtain ⟨f1, g1, g2⟩ := stars_in hfam (RS.hp (setP n (Go.Gm.nth ns 0, nextQ q n ((0 : Nat) : Int)))) (List.mem_map.2 ⟨_, List.mem_of_getElem? (famL_at h0), rfl⟩)
  exact setH_free (show (setH (Go.Gm.nth ns 0) n (nextQ q n ((0 : Nat) : Int))).p w f1 (U F) from g2) hev hk
theorem row_free1 {ls : List (Nat × RS)} {T m d : Nat} {l : List Int} : ∀ x ∈ [((m : Nat), RS.ob (.slot d) (fun v => rowH T 1 rInt l v))], ∀ (τ τ0 : Tau) (w : World) (F : Fp) (w' : World) (f y1 y' : Ys), (∀ z ∈ ls, z.2.holds τ0 w (F z.1) (U F)) → Ev w (U F) w' y' → x.2.holds τ w' f y1 → x.2.holds τ w' f y' := by
  intro x hx τ τ0 w F w' f y1 y' _ _ hk
  simp only [List.mem_singleton] at hx
  subst hx
  exact rowI_free (show (rowH T 1 rInt l (τ d)).p w' f y1 from hk)
/-- The members, as they are found. -/
def memL (q : List PairD) (u : Int) (k : Nat) : List Int := ((reachQ q u).take k).filter fun x => !decide (x = u) && decide (u ∈ reachQ q x)
theorem memL_next {q : List PairD} {u : Int} {k : Nat} (h : k < (reachQ q u).length) : memL q u (k + 1) = memL q u k ++ (if ¬ Go.Gm.nth (reachQ q u) k = u ∧ u ∈ reachQ q (Go.Gm.nth (reachQ q u) k) then [Go.Gm.nth (reachQ q u) k] else []) := by
  unfold memL
  rw [take_nth h, List.filter_append]
  congr 1
  by_cases e : Go.Gm.nth (reachQ q u) k = u <;> by_cases e2 : u ∈ reachQ q (Go.Gm.nth (reachQ q u) k) <;> simp [e, e2]
theorem memL_len (q : List PairD) (u : Int) (k : Nat) : (memL q u k).length ≤ k := by
  unfold memL
  exact Nat.le_trans (List.length_filter_le _ _) (by rw [List.length_take]; omega)
theorem rise_inc {l : List Int} (h : IncI l) : Rise (fun x : Int => x) l := fun a b hab hb => by
  rw [nth_eq (by omega), nth_eq hb]
  exact List.pairwise_iff_getElem.1 h a b (by omega) hb hab
theorem memL_inc {n : Nat} {q : List PairD} (hq : InN n q) (u : Int) (k : Nat) : IncI (memL q u k) := ((reachQ_up hq u).1.sublist (List.take_sublist _ _)).filter _
theorem low_split {k : Int} : ∀ {l : List Int}, IncI l → k ∉ l → (∀ x ∈ l.take (lowK (fun x : Int => x) k l), x < k) ∧ (∀ x ∈ l.drop (lowK (fun x : Int => x) k l), k < x)
  | [], _, _ => by simp
  | x :: l, h, hk => by
    have h' := List.pairwise_cons.1 h
    have hx : x ≠ k := fun e => hk (by simp [e])
    have ih := low_split (k := k) h'.2 fun hm => hk (by simp [hm])
    unfold lowK at ih ⊢
    by_cases e : x < k
    · rw [List.takeWhile_cons_of_pos (by simpa using e), List.length_cons, List.take_succ_cons, List.drop_succ_cons]
      exact ⟨fun y hy => by rcases List.mem_cons.1 hy with rfl | hy; exact e; exact ih.1 y hy, ih.2⟩
    · rw [List.takeWhile_cons_of_neg (by simpa using e)]
      refine ⟨fun y hy => by simp at hy, fun y hy => ?_⟩
      rcases List.mem_cons.1 hy with rfl | hy
      · omega
      · have := h'.1 y hy; omega
theorem low_le {k : Int} {l : List Int} : lowK (fun x : Int => x) k l ≤ l.length := by unfold lowK; exact (List.takeWhile_sublist _).length_le
theorem mem_comp {n : Nat} {q : List PairD} {u : Int} (hq : InN n q) (hu : There n u) : (memL q u (reachQ q u).length).take (lowK (fun x : Int => x) u (memL q u (reachQ q u).length)) ++ [u] ++ (memL q u (reachQ q u).length).drop (lowK (fun x : Int => x) u (memL q u (reachQ q u).length)) = compQ n q u := by
  have hmem : ∀ x, x ∈ memL q u (reachQ q u).length ↔ x ≠ u ∧ x ∈ reachQ q u ∧ u ∈ reachQ q x := fun x => by
    unfold memL
    rw [List.take_length, List.mem_filter]
    by_cases e : x = u <;> simp [e]
  have hinc := memL_inc hq u (reachQ q u).length
  generalize memL q u (reachQ q u).length = l at hmem hinc
  have hno : u ∉ l := fun h => ((hmem u).1 h).1 rfl
  obtain ⟨h1, h2⟩ := low_split hinc hno
  generalize lowK (fun x : Int => x) u l = i at h1 h2
  refine up_ext ?_ (compQ_up n q u).1 fun x => ?_
  · rw [List.append_assoc, List.pairwise_append]
    refine ⟨hinc.sublist (List.take_sublist _ _), ?_, fun a ha b hb => ?_⟩
    · exact List.pairwise_cons.2 ⟨fun b hb => h2 b hb, hinc.sublist (List.drop_sublist _ _)⟩
    · rcases List.mem_append.1 hb with hb | hb
      · rw [List.mem_singleton] at hb; subst hb; exact h1 a ha
      · have := h1 a ha; have := h2 b hb; omega
  · rw [mem_compQ]
    have hx : x ∈ l.take i ++ [u] ++ l.drop i ↔ x = u ∨ x ∈ l := by
      conv => rhs; rw [← List.take_append_drop i l]
      simp only [List.mem_append, List.mem_singleton]
      constructor
      · rintro ((h | h) | h)
        · exact .inr (.inl h)
        · exact .inl h
        · exact .inr (.inr h)
      · rintro (h | h | h)
        · exact .inl (.inr h)
        · exact .inl (.inl h)
        · exact .inr h
    rw [hx, hmem]
    constructor
    · rintro (rfl | ⟨h3, h4, h5⟩)
      · exact ⟨hu, .inl rfl⟩
      · exact ⟨(reachQ_up hq u).2 x h4, .inr ⟨h4, h5⟩⟩
    · rintro ⟨_, h3 | ⟨h3, h4⟩⟩
      · exact .inl h3
      · by_cases e : x = u
        · exact .inl e
        · exact .inr ⟨e, h3, h4⟩
theorem free_ia {i : Int} : Free (.pv (.tup [.int .i64 i, .any])) := fun τ w y y' v ⟨vs, e, h⟩ => ⟨vs, e, by
  match vs, h with
  | [a, b], h => exact h⟩
def labB (n : Nat) (q : List PairD) (u : Int) : Int := if There n u then labQ n q u else 0
theorem memB_up (n : Nat) (q : List PairD) (u : Int) : Up n (memB n q u) := by
  unfold memB
  split
  · exact compQ_up n q u
  · exact up_nil
def innerL (n : Nat) (q : List PairD) (u : Int) (ms : List Int) : List Int := andL (ofL (n : Int) ms) (nextQ q n u)
theorem andV_c (v : Value) (n : Nat) (x : List Int) (m : Nat) (z : List Int) : FnG Tryd.prog 80 1 [.is v, setR m z] [setH v n x] (.bool (!decide (x = andL x z))) (fun _ => [setH v n (andL x z)]) :=
  FnG.ptrAny (h0 := fun v => setH v n x) (args := fun v => [.is v, setR m z]) (pr := fun v => [setH v n x]) (q := fun _ => .bool (!decide (x = andL x z))) (qr := fun v _ => [setH v n (andL x z)]) setH_ptr (fun _ => rfl) (fun b => and_c b n x m z) v

theorem nodesF_c (n : Nat) (q : List PairD) : FnP Tryd.prog 15 [clF n q] (.int .i64 (n : Int)) := by
  refine FnP.mk Tryd.func15 rfl Tryd.ntmps15 rfl ?_
  intro B a w F hB hfr hS
  refine wp_seq ?_
  refine region_q hS
    (cF rfl (oN (.ci (by kernel_rfl))) trivial trivial
    Chain.nil)
    hB ?_
  clear hS; intro a w F hS
  obtain ⟨F, hS⟩ := hS.nm [2, 0] [0] rfl rfl
  try dsimp only [rSet, rInt] at hS
  refine then_n (wp_seq (wp_seq ?_))
  refine region_q hS
    (cF rfl (oM .t) r1 trivial
    (cF rfl (o_ref_eql Tryd.underlying23 .t) r1 trivial
    Chain.nil))
    hB ?_
  clear hS; intro a w F hS
  obtain ⟨F, hS⟩ := hS.nm [4, 2, 0] [0] rfl rfl
  try dsimp only [rSet, rInt] at hS
  refine then_n ?_
  refine cond_b hS rfl (fun hc0 => ?_) (fun hc0 => ?_)
  ·skip
   simp at hc0
  refine wp_skip (then_n (wp_seq ?_))
  refine region_q hS
    (cF rfl (oM .t) r1 trivial
    (cF rfl (o_nilCheck_ref .t) r1 trivial
    (cF rfl (oG 2 .t) r1 trivial
    (cF rfl (oR false 1 .t) r1 trivial
    (cF rfl (o_len_sl Tryd.underlying69 .t) r1 trivial
    (cF rfl (oN .t) r1 trivial
    Chain.nil))))))
    hB ?_
  clear hS; intro a w F hS
  obtain ⟨F, hS⟩ := hS.nm [2] [0] rfl rfl
  try dsimp only [List.map, xD, xE, xT, xU, ldSF, rSet, rInt] at hS
  refine then_n (wp_ret ?_)
  refine ret_P hfr hS rfl (.tmp rfl .nil) (.one (.int (by rw [rowsQ_len])))

theorem nodeF_c (n : Nat) (q : List PairD) (u : Int) : FnP Tryd.prog 44 [clF n q, .int .i64 u] (.bool (decide (There n u))) := by
  refine FnP.mk Tryd.func44 rfl Tryd.ntmps44 rfl ?_
  intro B a w F hB hfr hS
  refine wp_seq ?_
  refine region_q hS
    (cF rfl (oN .cb) trivial trivial
    Chain.nil)
    hB ?_
  clear hS; intro a w F hS
  obtain ⟨F, hS⟩ := hS.nm [4, 1, 0] [0] rfl rfl
  try dsimp only [rSet, rInt] at hS
  refine then_n (wp_seq ?_)
  refine region_q hS
    (cF rfl (oM .t) r1 trivial
    (cF rfl (o_geq .t (.ci (by kernel_rfl))) r1 trivial
    (cF rfl (oM .t) r1 trivial
    (Chain.cons (Cert.cond rfl rfl (fun h => o_move .t (by rfl))) r2 trivial
    (Chain.cons (Cert.cond rfl rfl (fun h => o_move .t (by rfl))) r2 trivial
    (Chain.cons (Cert.cond rfl rfl (fun h => o_callP (nodesF_c n q) Tryd.func15 rfl (by kernel_rfl) (Args.one (.w h)))) r2 trivial
    (Chain.cons (Cert.cond rfl rfl (fun h => o_lss (.w h) (.w h))) r3 trivial
    (cF rfl (o_and2 .t .t) r2 trivial
    (cF rfl (oN .t) r1 trivial
    Chain.nil)))))))))
    hB ?_
  clear hS; intro a w F hS
  obtain ⟨F, hS⟩ := hS.nm [4] [0] rfl rfl
  try dsimp only [rSet, rInt] at hS
  refine then_n (wp_ret ?_)
  refine ret_P hfr hS rfl (.tmp rfl .nil) (.one (.bool (by unfold There; by_cases h : 0 ≤ u <;> simp [h])))

theorem reachesF_c (n : Nat) (q : List PairD) (u v : Int) : FnP Tryd.prog 21 [clF n q, .int .i64 u, .int .i64 v] (.bool (reachB n q u v)) := by
  refine FnP.mk Tryd.func21 rfl Tryd.ntmps21 rfl ?_
  intro B a w F hB hfr hS
  refine wp_seq ?_
  refine region_q hS
    (cF rfl (oN .cb) trivial trivial
    Chain.nil)
    hB ?_
  clear hS; intro a w F hS
  obtain ⟨F, hS⟩ := hS.nm [6, 2, 1, 0] [0] rfl rfl
  try dsimp only [rSet, rInt] at hS
  refine then_n (wp_seq ?_)
  refine region_q hS
    (cF rfl (oM .t) r1 trivial
    (cF rfl (oM .t) r1 trivial
    (cF rfl (oP (nodeF_c n q u) Tryd.func44 (Args.two .t .t)) r2 trivial
    (cF rfl (oM .t) r1 trivial
    (Chain.cons (Cert.cond rfl rfl (fun h => o_move .t (by rfl))) r2 trivial
    (Chain.cons (Cert.cond rfl rfl (fun h => o_nilCheck_ref (.w h))) r2 trivial
    (Chain.cons (Cert.cond rfl rfl (fun h => o_fieldAddr_ref (off := 2) (.w h) (by kernel_rfl))) r2 trivial
    (Chain.cons (Cert.cond rfl rfl (fun h => o_load_ref (ag := false) (sz := 1) (.w h) (by kernel_rfl) (by kernel_rfl) (by kernel_rfl))) r2 trivial
    (Chain.cons (Cert.cond rfl rfl (fun h => o_move .t (by rfl))) r2 trivial
    (Chain.cons (Cert.cond rfl rfl (fun h => o_indexAddr_sl (sz := 1) (.mk Tryd.underlying69 (by kernel_rfl)) (by intro x; rfl) (.w h) (.w h) (by have h9 : There n u := of_decide_eq_true h; exact h9.1) (by have h9 : There n u := of_decide_eq_true h; rw [rowsQ_len]; exact h9.2))) r3 trivial
    (Chain.cons (Cert.cond rfl rfl (fun h => o_load_ref (ag := false) (sz := 1) (.w h) (by kernel_rfl) (by kernel_rfl) (by kernel_rfl))) r2 trivial
    (Chain.cons (Cert.cond rfl rfl (fun h => o_move .t (by rfl))) r2 trivial
    (Chain.cons (Cert.cond rfl rfl (fun h => o_callP (hasS_c n (Go.Gm.nth (rowsQ q n) u.toNat) v) Tryd.func47 rfl (by kernel_rfl) (Args.two (.w h) (.w h)))) r3 trivial
    (cF rfl (o_and2 .t .t) r2 trivial
    (cF rfl (oN .t) r1 trivial
    Chain.nil)))))))))))))))
    hB ?_
  clear hS; intro a w F hS
  obtain ⟨F, hS⟩ := hS.nm [6] [0] rfl rfl
  try dsimp only [List.map, xD, xE, xT, xU, ldSF, rSet, rInt] at hS
  try simp only [Int.toNat_natCast] at hS
  refine then_n (wp_ret ?_)
  refine ret_P hfr hS rfl (.tmp rfl .nil) (.one (.bool (by unfold reachB; by_cases h9 : There n u; (rw [show Go.Gm.nth (rowsQ q n) u.toNat = reachQ q u by rw [rowsQ_nth (by have := h9.1; have := h9.2; omega), Int.toNat_of_nonneg h9.1]]; simp [h9]); (simp [h9]))))

theorem crowF_c (n : Nat) (q : List PairD) (u : Int) : FnP Tryd.prog 20 [clF n q, .int .i64 u] (.sl rInt (rowB n q u)) := by
  refine FnP.mk Tryd.func20 rfl Tryd.ntmps20 rfl ?_
  intro B a w F hB hfr hS
  refine wp_seq ?_
  refine region_q hS
    (cF rfl (oN (.c rfl)) trivial trivial
    Chain.nil)
    hB ?_
  clear hS; intro a w F hS
  obtain ⟨F, hS⟩ := hS.nm [4, 1, 0] [0] rfl rfl
  try dsimp only [rSet, rInt] at hS
  refine then_n (wp_seq (wp_seq ?_))
  refine region_q hS
    (cF rfl (oM .t) r1 trivial
    (cF rfl (oM .t) r1 trivial
    (cF rfl (oP (nodeF_c n q u) Tryd.func44 (Args.two .t .t)) r2 trivial
    (cF rfl (o_not .t) r1 trivial
    Chain.nil))))
    hB ?_
  clear hS; intro a w F hS
  obtain ⟨F, hS⟩ := hS.nm [8, 4, 1, 0] [0] rfl rfl
  try dsimp only [rSet, rInt] at hS
  refine then_n ?_
  refine cond_b hS rfl (fun hc0 => ?_) (fun hc0 => ?_)
  ·skip
   have hg : [] = rowB n q u := by unfold rowB; rw [if_neg (by unfold There; simp at hc0; omega)]
   refine wp_seq ?_
   refine region_q hS
     (cF rfl (oN (.c rfl)) trivial trivial
     Chain.nil)
     hB ?_
   clear hS; intro a w F hS
   obtain ⟨F, hS⟩ := hS.nm [4, 1, 0] [0] rfl rfl
   try dsimp only [rSet, rInt] at hS
   refine then_n (wp_ret (then_r ?_))
   refine ret_P hfr hS rfl (.tmp rfl .nil) (.one (.trans .nilSl (.sl hg)))
  have hth : There n u := by unfold There; simp at hc0; omega
  have hg : Go.Gm.nth (rowsQ q n) u.toNat = rowB n q u := by rw [rowB_in hth, rowsQ_nth (by have := hth.1; have := hth.2; omega), Int.toNat_of_nonneg hth.1]
  refine wp_skip (then_n (wp_seq ?_))
  refine region_q hS
    (cF rfl (oM .t) r1 trivial
    (cF rfl (o_nilCheck_ref .t) r1 trivial
    (cF rfl (oG 2 .t) r1 trivial
    (cF rfl (oR false 1 .t) r1 trivial
    (cF rfl (oM .t) r1 trivial
    (cF rfl (o_indexAddr_sl (sz := 1) (.mk Tryd.underlying69 (by kernel_rfl)) (by intro x; rfl) .t .t (by exact hth.1) (by rw [rowsQ_len]; exact hth.2)) r2 trivial
    (cF rfl (oR false 1 .t) r1 trivial
    (cF rfl (oP (list_c n (Go.Gm.nth (rowsQ q n) u.toNat)) Tryd.func54 (Args.one .t)) r1 trivial
    (cF rfl (oN .t) r1 trivial
    Chain.nil)))))))))
    hB ?_
  clear hS; intro a w F hS
  obtain ⟨F, hS⟩ := hS.nm [4] [0] rfl rfl
  try dsimp only [List.map, xD, xE, xT, xU, ldSF, rSet, rInt] at hS
  try simp only [Int.toNat_natCast] at hS
  refine then_n (wp_ret ?_)
  refine ret_P hfr hS rfl (.tmp rfl .nil) (.one (.sl hg))

theorem coNodes_c (n : Nat) (q : List PairD) : FnP Tryd.prog 29 [coF n q] (.int .i64 (n : Int)) := by
  refine FnP.mk Tryd.func29 rfl Tryd.ntmps29 rfl ?_
  intro B a w F hB hfr hS
  refine wp_seq ?_
  refine region_q hS
    (cF rfl (oN (.ci (by kernel_rfl))) trivial trivial
    Chain.nil)
    hB ?_
  clear hS; intro a w F hS
  obtain ⟨F, hS⟩ := hS.nm [2, 0] [0] rfl rfl
  try dsimp only [rSet, rInt] at hS
  refine then_n (wp_seq (wp_seq ?_))
  refine region_q hS
    (cF rfl (oM .t) r1 trivial
    (cF rfl (o_ref_eql Tryd.underlying51 .t) r1 trivial
    Chain.nil))
    hB ?_
  clear hS; intro a w F hS
  obtain ⟨F, hS⟩ := hS.nm [4, 2, 0] [0] rfl rfl
  try dsimp only [rSet, rInt] at hS
  refine then_n ?_
  refine cond_b hS rfl (fun hc0 => ?_) (fun hc0 => ?_)
  ·skip
   simp at hc0
  refine wp_skip (then_n (wp_seq ?_))
  refine region_q hS
    (cF rfl (oM .t) r1 trivial
    (cF rfl (o_nilCheck_ref .t) r1 trivial
    (cF rfl (oG 0 .t) r1 trivial
    (cF rfl (oR false 1 .t) r1 trivial
    (cF rfl (oP (nodesF_c n q) Tryd.func15 (Args.one .t)) r1 trivial
    (cF rfl (oN .t) r1 trivial
    Chain.nil))))))
    hB ?_
  clear hS; intro a w F hS
  obtain ⟨F, hS⟩ := hS.nm [2] [0] rfl rfl
  try dsimp only [List.map, xD, xE, xT, xU, ldSF, rSet, rInt] at hS
  refine then_n (wp_ret ?_)
  refine ret_P hfr hS rfl (.tmp rfl .nil) (.one .refl)

theorem coNodes_nil  : FnP Tryd.prog 29 [.is (.pointer none)] (.int .i64 0) := by
  refine FnP.mk Tryd.func29 rfl Tryd.ntmps29 rfl ?_
  intro B a w F hB hfr hS
  refine wp_seq ?_
  refine region_q hS
    (cF rfl (oN (.ci (by kernel_rfl))) trivial trivial
    Chain.nil)
    hB ?_
  clear hS; intro a w F hS
  obtain ⟨F, hS⟩ := hS.nm [2, 0] [0] rfl rfl
  refine then_n (wp_seq (wp_seq ?_))
  refine region_q hS
    (cF rfl (oM .t) r1 trivial
    (cF rfl (o_nil_eql _ Tryd.underlying51 rfl .t) r1 trivial
    Chain.nil))
    hB ?_
  clear hS; intro a w F hS
  obtain ⟨F, hS⟩ := hS.nm [4, 2, 0] [0] rfl rfl
  refine then_n ?_
  refine cond_b hS rfl (fun hc0 => ?_) (fun hc0 => ?_)
  ·skip
   refine wp_seq ?_
   refine region_q hS
     (cF rfl (oN (.ci (by kernel_rfl))) trivial trivial
     Chain.nil)
     hB ?_
   clear hS; intro a w F hS
   obtain ⟨F, hS⟩ := hS.nm [2, 0] [0] rfl rfl
   refine then_n (wp_ret (then_r ?_))
   refine ret_P hfr hS rfl (.tmp rfl .nil) (.one .refl)
  simp at hc0

theorem members_c (n : Nat) (q : List PairD) (u : Int) (hn : n ≤ 4096) (hinn : InN n q) (hql : q.length ≤ 1000000) : FnG Tryd.prog 37 1 [coF n q, .int .i64 u] [HP.star []] (PV.one) (fun v => [rowH 3 1 rInt (memB n q u) v]) := by
  refine FnG.mk Tryd.func37 rfl Tryd.ntmps37 rfl (by kernel_rfl) ?_
  intro B F0 a w F hB hG hS
  obtain ⟨F, hS⟩ := hS.nm [1, 0] [0] rfl rfl
  refine wp_seq ?_
  refine region_q hS
    (cF rfl (oN (.c rfl)) trivial trivial
    Chain.nil)
    hB ?_
  clear hS; intro a w F hS
  obtain ⟨F, hS⟩ := hS.nm [4, 1, 0] [0] rfl rfl
  try dsimp only [rSet, rInt] at hS
  refine then_n (wp_seq (wp_seq ?_))
  refine region_q hS
    (cF rfl (oM .t) r1 trivial
    (cF rfl (o_lss .t (.ci (by kernel_rfl))) r1 trivial
    (cF rfl (oM .t) r1 trivial
    (Chain.cons (Cert.cond rfl rfl (fun h => o_move .t (by rfl))) r2 trivial
    (Chain.cons (Cert.cond rfl rfl (fun h => o_move .t (by rfl))) r2 trivial
    (Chain.cons (Cert.cond rfl rfl (fun h => o_callP (coNodes_c n q) Tryd.func29 rfl (by kernel_rfl) (Args.one (.w h)))) r2 trivial
    (Chain.cons (Cert.cond rfl rfl (fun h => o_geq (.w h) (.w h))) r3 trivial
    (cF rfl (o_or2 .t .t) r2 trivial
    Chain.nil))))))))
    hB ?_
  clear hS; intro a w F hS
  obtain ⟨F, hS⟩ := hS.nm [17, 4, 1, 0] [0] rfl rfl
  try dsimp only [rSet, rInt] at hS
  refine then_n ?_
  refine cond_b hS rfl (fun hc0 => ?_) (fun hc0 => ?_)
  ·skip
   have hg : memB n q u = [] := by unfold memB; rw [if_neg (by unfold There; simp at hc0; omega)]
   refine wp_seq ?_
   refine region_q hS
     (cF rfl (oN (.c rfl)) trivial trivial
     Chain.nil)
     hB ?_
   clear hS; intro a w F hS
   obtain ⟨F, hS⟩ := hS.nm [4, 1, 0] [0] rfl rfl
   try dsimp only [rSet, rInt] at hS
   refine then_n (wp_ret (then_r ?_))
   have hS := hS.fresh 1 rfl
   have hS := hS.turn 1 rfl (nilRow (T := 3) (sz := 1) (R := rInt))
   have hS := hS.turn 1 rfl (r' := RS.hp (rowH 3 1 rInt (memB n q u) (.slice none 0 0))) (fun _ _ _ _ h => by rw [hg]; exact h)
   refine ret_N1 (h' := fun v => rowH 3 1 rInt (memB n q u) v) hG hS rfl (.tmp rfl .nil) (.one .one) rfl
  have hth : There n u := by unfold There; simp at hc0; omega
  have hrl := reachQ_len q u
  refine wp_skip (then_n (wp_seq ?_))
  refine region_q hS
    (cF rfl (oN (.c rfl)) trivial trivial
    Chain.nil)
    hB ?_
  clear hS; intro a w F hS
  obtain ⟨F, hS⟩ := hS.nm [5, 4, 1, 0] [0] rfl rfl
  try dsimp only [rSet, rInt] at hS
  refine then_n (wp_seq (wp_seq ?_))
  refine region_q hS
    (cF rfl (oM .t) r1 trivial
    (cF rfl (o_nilCheck_ref .t) r1 trivial
    (cF rfl (oG 0 .t) r1 trivial
    (cF rfl (oR false 1 .t) r1 trivial
    (cF rfl (oM .t) r1 trivial
    (cF rfl (oP (crowF_c n q u) Tryd.func20 (Args.two .t .t)) r2 trivial
    (cF rfl (o_len_sl Tryd.underlying30 .t) r1 trivial
    (cF rfl (oM (.ci (by kernel_rfl))) trivial trivial
    Chain.nil))))))))
    hB ?_
  clear hS; intro a w F hS
  obtain ⟨F, hS⟩ := hS.nm [25, 24, 23, 5, 4, 1, 0] [0] rfl rfl
  try dsimp only [List.map, xD, xE, xT, xU, ldSF, rSet, rInt] at hS
  rw [rowB_in hth] at hS
  refine then_n (wp_block ?_)
  replace hS := hS.fresh 50 rfl
  replace hS := hS.turn 50 rfl (nilRow (T := 3) (sz := 1) (R := rInt))
  refine loop_keep (σ := (Nat) × (Value) × (List Int)) [0, 1, 4, 23, 24] [0] (fun s => [(25, .pv (.int .i64 (s.1 : Int))), (5, .pv (.is s.2.1))]) (fun s => [(50, .ob (.val s.2.1) (rowH 3 1 rInt s.2.2))]) (fun s => s.1 ≤ (reachQ q u).length ∧ (s.2.2 = memL q u s.1)) (fun s => (reachQ q u).length - s.1) ((0), (.slice none 0 0), ([])) hS ⟨rfl, rfl, rfl, rfl, rfl, rfl, rfl, trivial⟩ ⟨rfl, rfl, trivial⟩ ⟨Nat.zero_le _, rfl⟩ ?_
  clear hS; intro s a w F hC hS
  obtain ⟨i, v, out⟩ := s
  try dsimp only at hC
  obtain ⟨F, hS⟩ := hS.nm [25, 24, 23, 5, 4, 1, 0] [50, 0] rfl rfl
  try dsimp only at hS
  obtain ⟨hi, hq⟩ := hC
  have hol : out.length ≤ i := by rw [hq]; exact memL_len _ _ _
  refine wp_seq ?_
  refine region_q hS
    (cF rfl (o_lss .t .t) r2 trivial
    Chain.nil)
    hB ?_
  clear hS; intro a w F hS
  obtain ⟨F, hS⟩ := hS.nm [26, 25, 24, 23, 5, 4, 1, 0] [50, 0] rfl rfl
  try dsimp only [rSet, rInt] at hS
  refine then_n (wp_seq ?_)
  refine cond_b hS rfl (fun hc1 => ?_) (fun hc1 => ?_)
  ·skip
   have hil : i < (reachQ q u).length := by simp at hc1; omega
   refine wp_skip (then_n (wp_seq (wp_block (wp_seq ?_))))
   refine region_q hS
     (cF rfl (o_indexAddr_sl (sz := 1) (.mk Tryd.underlying30 (by kernel_rfl)) (by intro x; rfl) .t .t (by omega) (by omega)) r2 trivial
     (cF rfl (oR false 1 .t) r1 trivial
     (cF rfl (oN .t) r1 trivial
     Chain.nil)))
     hB ?_
   clear hS; intro a w F hS
   obtain ⟨F, hS⟩ := hS.nm [25, 24, 23, 7, 5, 4, 1, 0] [50, 0] rfl rfl
   try dsimp only [List.map, xD, xE, xT, xU, ldSF, rSet, rInt] at hS
   try simp only [Int.toNat_natCast] at hS
   refine then_n (wp_seq ?_)
   refine region_q hS
     (cF rfl (oM .t) r1 trivial
     (cF rfl (oM .t) r1 trivial
     (cF rfl (o_neq .t .t) r2 trivial
     (cF rfl (oM .t) r1 trivial
     (Chain.cons (Cert.cond rfl rfl (fun h => o_move .t (by rfl))) r2 trivial
     (Chain.cons (Cert.cond rfl rfl (fun h => o_nilCheck_ref (.w h))) r2 trivial
     (Chain.cons (Cert.cond rfl rfl (fun h => o_fieldAddr_ref (off := 0) (.w h) (by kernel_rfl))) r2 trivial
     (Chain.cons (Cert.cond rfl rfl (fun h => o_load_ref (ag := false) (sz := 1) (.w h) (by kernel_rfl) (by kernel_rfl) (by kernel_rfl))) r2 trivial
     (Chain.cons (Cert.cond rfl rfl (fun h => o_move .t (by rfl))) r2 trivial
     (Chain.cons (Cert.cond rfl rfl (fun h => o_move .t (by rfl))) r2 trivial
     (Chain.cons (Cert.cond rfl rfl (fun h => o_callP (reachesF_c n q (Go.Gm.nth (reachQ q u) i) u) Tryd.func21 rfl (by kernel_rfl) (Args.three (.w h) (.w h) (.w h)))) r4 trivial
     (cF rfl (o_and2 .t .t) r2 trivial
     Chain.nil))))))))))))
     hB ?_
   clear hS; intro a w F hS
   obtain ⟨F, hS⟩ := hS.nm [40, 25, 24, 23, 7, 5, 4, 1, 0] [50, 0] rfl rfl
   try dsimp only [List.map, xD, xE, xT, xU, ldSF, rSet, rInt] at hS
   refine then_n ?_
   refine cond_b hS rfl (fun hc2 => ?_) (fun hc2 => ?_)
   ·skip
    have hBq : (¬ (Go.Gm.nth (reachQ q u) i) = u ∧ u ∈ reachQ q (Go.Gm.nth (reachQ q u) i)) = True := eq_true (by unfold reachB at hc2; simp at hc2; exact ⟨hc2.1, hc2.2.2⟩)
    refine region_q hS
      (cF rfl (oM .t) r1 trivial
      (cF rfl (oM .t) r1 trivial
      (cF rfl (o_buildSliceE (sz := 1) (zs := [.int .i64 0]) (r := [(0, .tmp 42)]) (l := [_]) Tryd.underlying30 (by kernel_rfl) (by kernel_rfl) (by kernel_rfl) (by kernel_rfl) rfl rfl (.one rfl .t one_int (by kernel_rfl) .nil) rfl) r1 trivial
      (cF rfl (o_append (sz := 1) (bs := 8) 50 (.mk' Tryd.underlying30 (by kernel_rfl) (by kernel_rfl)) (by intro x; rfl) .is (.arr (l' := [(Go.Gm.nth (reachQ q u) i)]) .t) (by simp only [List.length_append, List.length_cons, List.length_nil]; omega) (by decide)) ⟨rfl, rfl, trivial⟩ ⟨rfl, trivial⟩
      (cF rfl (oN .t) r1 trivial
      Chain.nil)))))
      hB ?_
    clear hS; intro a w F hS
    replace hS := hS.sub
    obtain ⟨F, hS⟩ := hS.nm [25, 24, 23, 5, 4, 1, 0] [50, 0] rfl rfl
    try dsimp only [RS.sub, SF.sub, CF.sub, csub, Anc.sub, List.map, stCells, xL, xM, Nat.reduceAdd, xD, xE, xT, xU, xC, xN, zCF, rSet, rInt] at hS
    generalize Act.tau a 44 = v44 at hS
    refine block_n (then_n ?_)
    refine region_q hS
      (cF rfl (o_add .t (.ci (by kernel_rfl))) r1 trivial
      (cF rfl (oM .t) r1 trivial
      Chain.nil))
      hB ?_
    clear hS; intro a w F hS
    obtain ⟨F, hS⟩ := hS.nm [25, 24, 23, 5, 4, 1, 0] [50, 0] rfl rfl
    try dsimp only [rSet, rInt] at hS
    refine then_n ?_
    replace hS := hS.ent (i := 25) (s' := .pv (.int .i64 ((i + 1 : Nat) : Int))) rfl (.int (wrap_succ (by omega)))
    obtain ⟨F, hS⟩ := hS.nm [24, 23, 4, 1, 0, 5, 25] [0, 50] rfl rfl
    exact ⟨((i + 1), _, _), F, ⟨by omega, (by rw [memL_next hil, ← hq]; simp [hBq])⟩, hS, by omega⟩
   have hBq : (¬ (Go.Gm.nth (reachQ q u) i) = u ∧ u ∈ reachQ q (Go.Gm.nth (reachQ q u) i)) = False := eq_false (by rintro ⟨h8, h9⟩; have hx := (reachQ_up hinn u).2 _ (nth_mem hil); unfold reachB at hc2; simp [h8, h9, hx, There] at hc2; try omega)
   refine wp_skip (block_n (then_n ?_))
   refine region_q hS
     (cF rfl (o_add .t (.ci (by kernel_rfl))) r1 trivial
     (cF rfl (oM .t) r1 trivial
     Chain.nil))
     hB ?_
   clear hS; intro a w F hS
   obtain ⟨F, hS⟩ := hS.nm [25, 24, 23, 5, 4, 1, 0] [50, 0] rfl rfl
   try dsimp only [rSet, rInt] at hS
   refine then_n ?_
   replace hS := hS.ent (i := 25) (s' := .pv (.int .i64 ((i + 1 : Nat) : Int))) rfl (.int (wrap_succ (by omega)))
   obtain ⟨F, hS⟩ := hS.nm [24, 23, 4, 1, 0, 5, 25] [0, 50] rfl rfl
   exact ⟨((i + 1), _, _), F, ⟨by omega, (by rw [memL_next hil, ← hq]; simp [hBq])⟩, hS, by omega⟩
  have hil : i = (reachQ q u).length := by simp at hc1; omega
  have hol9 : out = (memL q u (reachQ q u).length) := by rw [hq, hil]
  rw [hol9] at hS
  refine wp_exit (then_x (then_x (block_x (then_n (wp_seq ?_)))))
  refine region_q hS
    (cF rfl (oM .t) r1 trivial
    (cF rfl (oM .t) r1 trivial
    (cF rfl (OpC.lendRow 50 [47] (oP (bsI_c (memL q u (reachQ q u).length) u (by have := memL_len q u (reachQ q u).length; omega) (rise_inc (memL_inc hinn u _))) Tryd.func61 (Args.two .t .t)) ⟨rfl, trivial, trivial⟩ free_ia trivial (by rfl)) r2 r1
    (cF rfl (oM .t) r1 trivial
    (cF rfl (o_extract .t rfl) r1 trivial
    (cF rfl (o_extract .t rfl) r1 trivial
    (cF rfl (oN .t) r1 trivial
    (cF rfl (oN .t) r1 trivial
    Chain.nil))))))))
    hB ?_
  clear hS; intro a w F hS
  obtain ⟨F, hS⟩ := hS.nm [8, 5, 4, 1] [50, 0] rfl rfl
  try dsimp only [rSet, rInt] at hS
  refine then_n (wp_seq ?_)
  refine region_q hS
    (cF rfl (oM .t) r1 trivial
    (cF rfl (oM .t) r1 trivial
    (cF rfl (oM .t) r1 trivial
    (cF rfl (o_buildSliceE (sz := 1) (zs := [.int .i64 0]) (r := [(0, .tmp 54)]) (l := [_]) Tryd.underlying30 (by kernel_rfl) (by kernel_rfl) (by kernel_rfl) (by kernel_rfl) rfl rfl (.one rfl .t one_int (by kernel_rfl) .nil) rfl) r1 trivial
    (cF rfl (o_callRowN 50 (insI_c v (memL q u (reachQ q u).length) (lowK (fun x : Int => x) u (memL q u (reachQ q u).length)) u (by have := memL_len q u (reachQ q u).length; omega) low_le) Tryd.func62 rfl (by kernel_rfl) (Args.three .t .t (.conv .t (Ent.arrSl (R := rInt) (l := [u]) rfl))) pvOne1) r3 r1
    (cF rfl (oN .t) r1 trivial
    Chain.nil))))))
    hB ?_
  clear hS; intro a w F hS
  replace hS := hS.sub
  obtain ⟨F, hS⟩ := hS.nm [4] [50, 0] rfl rfl
  try dsimp only [RS.sub, SF.sub, CF.sub, csub, Anc.sub, List.map, stCells, xL, xM, Nat.reduceAdd, xD, xE, xT, xU, xC, xN, zCF, rSet, rInt] at hS
  generalize Act.tau a 56 = v56 at hS
  refine then_n (wp_ret ?_)
  rw [mem_comp hinn hth] at hS
  have hg : memB n q u = compQ n q u := by unfold memB; rw [if_pos hth]
  obtain ⟨F, hS⟩ := hS.rename 50 1 rfl rfl
  have hS := hS.turn 1 rfl (r' := RS.hp (rowH 3 1 rInt (memB n q u) v56)) (fun _ _ _ _ h => by rw [hg]; exact h)
  refine ret_N1 (h' := fun v => rowH 3 1 rInt (memB n q u) v) hG hS rfl (.tmp rfl .nil) (.one .one) rfl

theorem members_nil (u : Int) : FnP Tryd.prog 37 [.is (.pointer none), .int .i64 u] (.sl rInt []) := by
  refine FnP.mk Tryd.func37 rfl Tryd.ntmps37 rfl ?_
  intro B a w F hB hfr hS
  refine wp_seq ?_
  refine region_q hS
    (cF rfl (oN (.c rfl)) trivial trivial
    Chain.nil)
    hB ?_
  clear hS; intro a w F hS
  obtain ⟨F, hS⟩ := hS.nm [4, 1, 0] [0] rfl rfl
  refine then_n (wp_seq (wp_seq ?_))
  refine region_q hS
    (cF rfl (oM .t) r1 trivial
    (cF rfl (o_lss .t (.ci (by kernel_rfl))) r1 trivial
    (cF rfl (oM .t) r1 trivial
    (Chain.cons (Cert.cond rfl rfl (fun h => o_move .t (by rfl))) r2 trivial
    (Chain.cons (Cert.cond rfl rfl (fun h => o_move .t (by rfl))) r2 trivial
    (Chain.cons (Cert.cond rfl rfl (fun h => o_callP (coNodes_nil) Tryd.func29 rfl (by kernel_rfl) (Args.one (.w h)))) r2 trivial
    (Chain.cons (Cert.cond rfl rfl (fun h => o_geq (.w h) (.w h))) r3 trivial
    (cF rfl (o_or2 .t .t) r2 trivial
    Chain.nil))))))))
    hB ?_
  clear hS; intro a w F hS
  obtain ⟨F, hS⟩ := hS.nm [17, 4, 1, 0] [0] rfl rfl
  refine then_n ?_
  refine cond_b hS rfl (fun hc0 => ?_) (fun hc0 => ?_)
  ·skip
   refine wp_seq ?_
   refine region_q hS
     (cF rfl (oN (.c rfl)) trivial trivial
     Chain.nil)
     hB ?_
   clear hS; intro a w F hS
   obtain ⟨F, hS⟩ := hS.nm [4, 1, 0] [0] rfl rfl
   refine then_n (wp_ret (then_r ?_))
   refine ret_P hfr hS rfl (.tmp rfl .nil) (.one (.trans .nilSl (.sl rfl)))
  simp at hc0; omega

theorem label_c (n : Nat) (q : List PairD) (u : Int) (hn : n ≤ 4096) (hinn : InN n q) (hql : q.length ≤ 1000000) : FnP Tryd.prog 34 [coF n q, .int .i64 u] (.tup [.int .i64 (labB n q u), .bool (decide (There n u))]) := by
  refine FnP.mk Tryd.func34 rfl Tryd.ntmps34 rfl ?_
  intro B a w F hB hfr hS
  refine wp_seq ?_
  refine region_q hS
    (cF rfl (oN (.ci (by kernel_rfl))) trivial trivial
    (cF rfl (oN .cb) trivial trivial
    Chain.nil))
    hB ?_
  clear hS; intro a w F hS
  obtain ⟨F, hS⟩ := hS.nm [5, 4, 1, 0] [0] rfl rfl
  try dsimp only [rSet, rInt] at hS
  refine then_n (wp_seq ?_)
  replace hS := hS.fresh 101 rfl
  refine region_q hS
    (cF rfl (oM .t) r1 trivial
    (cF rfl (oM .t) r1 trivial
    (cF rfl (o_callN 101 (members_c n q u hn hinn hql) Tryd.func37 rfl (by kernel_rfl) (Args.two .t .t) pvOne1) r2 r1
    (cF rfl (oN .t) r1 trivial
    Chain.nil))))
    hB ?_
  clear hS; intro a w F hS
  replace hS := hS.sub
  obtain ⟨F, hS⟩ := hS.nm [6, 5, 4] [101, 0] rfl rfl
  try dsimp only [RS.sub, SF.sub, CF.sub, csub, Anc.sub, List.map, rSet, rInt] at hS
  generalize Act.tau a 9 = v9 at hS
  obtain ⟨F, hS⟩ := hS.give 101 6 rfl rfl
  obtain ⟨F, hS⟩ := hS.nm [6, 5, 4] [0] rfl rfl
  refine then_n (wp_seq (wp_seq ?_))
  refine region_q hS
    (cF rfl (oM .t) r1 trivial
    (cF rfl (o_len_sl Tryd.underlying30 .t) r1 trivial
    (cF rfl (o_eql .t (.ci (by kernel_rfl))) r1 trivial
    Chain.nil)))
    hB ?_
  clear hS; intro a w F hS
  obtain ⟨F, hS⟩ := hS.nm [12, 6, 5, 4] [0] rfl rfl
  try dsimp only [rSet, rInt] at hS
  refine then_n ?_
  refine cond_b hS rfl (fun hc0 => ?_) (fun hc0 => ?_)
  ·skip
   have hnt : ¬ There n u := by intro h9; have := compQ_pos (q := q) h9; unfold memB at hc0; rw [if_pos h9] at hc0; simp at hc0; rw [hc0] at this; simp at this
   have hg1 : (0 : Int) = labB n q u := by unfold labB; rw [if_neg hnt]
   have hg2 : false = decide (There n u) := (decide_eq_false hnt).symm
   refine wp_seq ?_
   refine region_q hS
     (cF rfl (oN (.ci (by kernel_rfl))) trivial trivial
     (cF rfl (oN .cb) trivial trivial
     Chain.nil))
     hB ?_
   clear hS; intro a w F hS
   obtain ⟨F, hS⟩ := hS.nm [6, 5, 4] [0] rfl rfl
   try dsimp only [rSet, rInt] at hS
   refine then_n (wp_ret (then_r ?_))
   refine ret_P hfr hS rfl (.tmp rfl (.tmp rfl .nil)) (.two (.int hg1) (.bool hg2))
  have hpos : 0 < (memB n q u).length := by simp at hc0; exact List.length_pos_iff.2 hc0
  have hth : There n u := by apply Decidable.byContradiction; intro h9; unfold memB at hpos; rw [if_neg h9] at hpos; simp at hpos
  have hg1 : Go.Gm.nth (memB n q u) 0 = labB n q u := by unfold labB memB; rw [if_pos hth, if_pos hth]; rfl
  have hg2 : true = decide (There n u) := (decide_eq_true hth).symm
  refine wp_skip (then_n (wp_seq ?_))
  refine region_q hS
    (cF rfl (oM .t) r1 trivial
    (cF rfl (o_indexAddr_sl (sz := 1) (.mk Tryd.underlying30 (by kernel_rfl)) (by intro x; rfl) .t (.ci (by kernel_rfl)) (by decide) (by omega)) r1 trivial
    (cF rfl (oR false 1 .t) r1 trivial
    (cF rfl (oN .t) r1 trivial
    (cF rfl (oN .cb) trivial trivial
    Chain.nil)))))
    hB ?_
  clear hS; intro a w F hS
  obtain ⟨F, hS⟩ := hS.nm [5, 4] [0] rfl rfl
  try dsimp only [List.map, xD, xE, xT, xU, ldSF, rSet, rInt] at hS
  try simp only [Int.toNat_natCast] at hS
  refine then_n (wp_ret ?_)
  refine ret_P hfr hS rfl (.tmp rfl (.tmp rfl .nil)) (.two (.int hg1) (.bool hg2))

theorem label_nil (u : Int) : FnP Tryd.prog 34 [.is (.pointer none), .int .i64 u] (.tup [.int .i64 0, .bool false]) := by
  refine FnP.mk Tryd.func34 rfl Tryd.ntmps34 rfl ?_
  intro B a w F hB hfr hS
  refine wp_seq ?_
  refine region_q hS
    (cF rfl (oN (.ci (by kernel_rfl))) trivial trivial
    (cF rfl (oN .cb) trivial trivial
    Chain.nil))
    hB ?_
  clear hS; intro a w F hS
  obtain ⟨F, hS⟩ := hS.nm [5, 4, 1, 0] [0] rfl rfl
  refine then_n (wp_seq ?_)
  refine region_q hS
    (cF rfl (oM .t) r1 trivial
    (cF rfl (oM .t) r1 trivial
    (cF rfl (oP (members_nil _) Tryd.func37 (Args.two .t .t)) r2 trivial
    (cF rfl (oN .t) r1 trivial
    Chain.nil))))
    hB ?_
  clear hS; intro a w F hS
  obtain ⟨F, hS⟩ := hS.nm [6, 5, 4] [0] rfl rfl
  refine then_n (wp_seq (wp_seq ?_))
  refine region_q hS
    (cF rfl (oM .t) r1 trivial
    (cF rfl (o_len_sl Tryd.underlying30 .t) r1 trivial
    (cF rfl (o_eql .t (.ci (by kernel_rfl))) r1 trivial
    Chain.nil)))
    hB ?_
  clear hS; intro a w F hS
  obtain ⟨F, hS⟩ := hS.nm [12, 6, 5, 4] [0] rfl rfl
  refine then_n ?_
  refine cond_b hS rfl (fun hc0 => ?_) (fun hc0 => ?_)
  ·skip
   refine wp_seq ?_
   refine region_q hS
     (cF rfl (oN (.ci (by kernel_rfl))) trivial trivial
     (cF rfl (oN .cb) trivial trivial
     Chain.nil))
     hB ?_
   clear hS; intro a w F hS
   obtain ⟨F, hS⟩ := hS.nm [6, 5, 4] [0] rfl rfl
   refine then_n (wp_ret (then_r ?_))
   refine ret_P hfr hS rfl (.tmp rfl (.tmp rfl .nil)) (.two .refl .refl)
  simp at hc0

theorem cround_c (n : Nat) (q : List PairD) (u : Int) : FnP Tryd.prog 38 [coF n q, .int .i64 u] (.bool (reachB n q u u)) := by
  refine FnP.mk Tryd.func38 rfl Tryd.ntmps38 rfl ?_
  intro B a w F hB hfr hS
  refine wp_seq ?_
  refine region_q hS
    (cF rfl (oN .cb) trivial trivial
    Chain.nil)
    hB ?_
  clear hS; intro a w F hS
  obtain ⟨F, hS⟩ := hS.nm [4, 1, 0] [0] rfl rfl
  try dsimp only [rSet, rInt] at hS
  refine then_n (wp_seq ?_)
  refine region_q hS
    (cF rfl (oM .t) r1 trivial
    (cF rfl (o_ref_neq Tryd.underlying51 .t) r1 trivial
    (cF rfl (oM .t) r1 trivial
    (Chain.cons (Cert.cond rfl rfl (fun h => o_move .t (by rfl))) r2 trivial
    (Chain.cons (Cert.cond rfl rfl (fun h => o_nilCheck_ref (.w h))) r2 trivial
    (Chain.cons (Cert.cond rfl rfl (fun h => o_fieldAddr_ref (off := 0) (.w h) (by kernel_rfl))) r2 trivial
    (Chain.cons (Cert.cond rfl rfl (fun h => o_load_ref (ag := false) (sz := 1) (.w h) (by kernel_rfl) (by kernel_rfl) (by kernel_rfl))) r2 trivial
    (Chain.cons (Cert.cond rfl rfl (fun h => o_move .t (by rfl))) r2 trivial
    (Chain.cons (Cert.cond rfl rfl (fun h => o_move .t (by rfl))) r2 trivial
    (Chain.cons (Cert.cond rfl rfl (fun h => o_callP (reachesF_c n q u u) Tryd.func21 rfl (by kernel_rfl) (Args.three (.w h) (.w h) (.w h)))) r4 trivial
    (cF rfl (o_and2 .t .t) r2 trivial
    (cF rfl (oN .t) r1 trivial
    Chain.nil))))))))))))
    hB ?_
  clear hS; intro a w F hS
  obtain ⟨F, hS⟩ := hS.nm [4] [0] rfl rfl
  try dsimp only [List.map, xD, xE, xT, xU, ldSF, rSet, rInt] at hS
  refine then_n (wp_ret ?_)
  refine ret_P hfr hS rfl (.tmp rfl .nil) (.one (.bool (by simp)))

theorem inner_c (n : Nat) (q : List PairD) (u : Int) (ms : List Int) (hn : n ≤ 4096) (hu : There n u) (hms : ms.length ≤ 1000000) : FnG Tryd.prog 63 1 [coF n q, .int .i64 u, .sl rInt ms] [gH tabP tabV] (PV.ptr) (fun v => [setH v n (innerL n q u ms)]) := by
  refine FnG.mk Tryd.func63 rfl Tryd.ntmps63 rfl (by kernel_rfl) ?_
  intro B F0 a w F hB hG hS
  refine wp_seq ?_
  refine region_q hS
    (cF rfl (oN (.c rfl)) trivial trivial
    Chain.nil)
    hB ?_
  clear hS; intro a w F hS
  obtain ⟨F, hS⟩ := hS.nm [6, 2, 1, 0] [1, 0] rfl rfl
  try dsimp only [rSet, rInt] at hS
  refine then_n (wp_seq ?_)
  refine region_q hS
    (cF rfl (oM .t) r1 trivial
    (cF rfl (oP (coNodes_c n q) Tryd.func29 (Args.one .t)) r1 trivial
    (cF rfl (oM .t) r1 trivial
    (cF rfl (o_callNg 1 (ofS_c (n : Int) ms hms) Tryd.func79 rfl (by kernel_rfl) (Args.two .t .t) PV.ptr_one) r2 r1
    (cF rfl (oN .t) r1 trivial
    Chain.nil)))))
    hB ?_
  clear hS; intro a w F hS
  replace hS := hS.sub
  obtain ⟨F, hS⟩ := hS.nm [7, 6, 1, 0] [1, 0] rfl rfl
  try dsimp only [RS.sub, SF.sub, CF.sub, csub, Anc.sub, List.map, rSet, rInt] at hS
  generalize Act.tau a 11 = v11 at hS
  rw [rowN_nat (by omega)] at hS
  replace hS := hS.turn 1 rfl (r' := RS.hp (setH v11 n (ofL (n : Int) ms))) (fun _ _ _ _ h => h)
  refine then_n (wp_seq ?_)
  refine region_q hS
    (cF rfl (oM .t) r1 trivial
    (cF rfl (oM .t) r1 trivial
    (cF rfl (o_nilCheck_ref .t) r1 trivial
    (cF rfl (oG 1 .t) r1 trivial
    (cF rfl (oR false 1 .t) r1 trivial
    (cF rfl (oM .t) r1 trivial
    (cF rfl (o_indexAddr_sl (sz := 1) (.mk Tryd.underlying69 (by kernel_rfl)) (by intro x; rfl) .t .t (by exact hu.1) (by rw [nextsQ_len]; exact hu.2)) r2 trivial
    (cF rfl (oR false 1 .t) r1 trivial
    (cF rfl (o_callG1 1 (andV_c v11 n (ofL (n : Int) ms) n (Go.Gm.nth (nextsQ q n) u.toNat)) Tryd.func80 rfl (by kernel_rfl) (Args.two .t .t)) r2 r1
    Chain.nil)))))))))
    hB ?_
  clear hS; intro a w F hS
  obtain ⟨F, hS⟩ := hS.nm [7, 6] [1, 0] rfl rfl
  try dsimp only [List.map, xD, xE, xT, xU, ldSF, rSet, rInt] at hS
  try simp only [Int.toNat_natCast] at hS
  rw [show andL (ofL (n : Int) ms) (Go.Gm.nth (nextsQ q n) u.toNat) = innerL n q u ms by unfold innerL; rw [nextsQ_nth (by have := hu.1; have := hu.2; omega), Int.toNat_of_nonneg hu.1]] at hS
  obtain ⟨bq, rfl⟩ := setH_ptr (show (setH v11 n (innerL n q u ms)).p _ _ _ from hS.r 1 _ rfl)
  refine then_n (wp_seq ?_)
  refine region_q hS
    (cF rfl (oM .t) r1 trivial
    (cF rfl (oN .t) r1 trivial
    Chain.nil))
    hB ?_
  clear hS; intro a w F hS
  obtain ⟨F, hS⟩ := hS.nm [6] [1, 0] rfl rfl
  try dsimp only [rSet, rInt] at hS
  refine then_n (wp_ret ?_)
  refine ret_N1 (h' := fun v => setH v n (innerL n q u ms)) hG hS rfl (.tmp rfl .nil) (.one .ptr) rfl

end Go.Proofs.YtpahapjcdldodaaDoor
