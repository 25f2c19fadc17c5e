/- The ring of a log; place, Len, Ahead. No condition beyond those that each theorem says. -/
import Derived.Test.YtmdhidjpnmkmjaaDa7
import Derived.Test.YtmdhidjpnmkmjaaLibV
namespace Go.Proofs.Ytmdhidjpnmkmjaa
open Go Go.Gm
set_option linter.unusedVariables false
set_option linter.unusedSimpArgs false
set_option maxHeartbeats 4000000
set_option maxRecDepth 8000
theorem ring_ne {n f j k : Nat} (h1 : j < k) (h2 : k < n) : (f + j) % n ≠ (f + k) % n := by
  intro e
  have h := Nat.sub_mod_eq_zero_of_mod_eq e.symm
  rw [show f + k - (f + j) = k - j by omega, Nat.mod_eq_of_lt (by omega)] at h
  omega
theorem nth_apL {α : Type} [Inhabited α] {q r : List α} {i : Nat} (h : i < q.length) : Go.Gm.nth (q ++ r) i = Go.Gm.nth q i := by
  rw [nth_eq h, nth_eq (by simp; omega), List.getElem_append_left h]
theorem nth_apE {α : Type} [Inhabited α] {q r : List α} {c : α} : Go.Gm.nth (q ++ c :: r) q.length = c := by rw [nth_eq (by simp)]; simp
theorem nth_set {α : Type} [Inhabited α] {q : List α} {c : α} {i j : Nat} (h : j < q.length) : Go.Gm.nth (q.set i c) j = if i = j then c else Go.Gm.nth q j := by
  rw [nth_eq (by simpa using h), nth_eq h, List.getElem_set]
structure LogOk (n : Nat) (c : List DeltaD) (f : Nat) (S : List DeltaD) : Prop where
  room : n ≤ 4096
  len : c.length = n
  first : f ≤ n
  fits : S.length ≤ n
  cell : ∀ j, j < S.length → Go.Gm.nth c ((f + j) % n) = Go.Gm.nth S j
  ok : ∀ j, j < S.length → DOk (Go.Gm.nth S j)
theorem LogOk.take {n : Nat} {c : List DeltaD} {f : Nat} {S T : List DeltaD} (h : LogOk n c f (S ++ T)) : LogOk n c f S := by
  obtain ⟨h1, h2, h3, h4, h5, h6⟩ := h
  rw [List.length_append] at h4 h5 h6
  refine ⟨h1, h2, h3, by omega, fun j hj => ?_, fun j hj => ?_⟩
  · rw [h5 j (by omega), nth_apL hj]
  · have := h6 j (by omega); rwa [nth_apL hj] at this
theorem LogOk.tail {n : Nat} {c : List DeltaD} {f : Nat} {x : DeltaD} {S : List DeltaD} (h : LogOk n c f (x :: S)) : LogOk n c ((f + 1) % n) S := by
  obtain ⟨h1, h2, h3, h4, h5, h6⟩ := h
  rw [List.length_cons] at h4 h5 h6
  have e : ∀ j, j < S.length → Go.Gm.nth (x :: S) (j + 1) = Go.Gm.nth S j := fun j hj => by rw [nth_eq (by simpa using hj), nth_eq hj]; rfl
  refine ⟨h1, h2, Nat.le_of_lt (Nat.mod_lt _ (by omega)), by omega, fun j hj => ?_, fun j hj => ?_⟩
  · rw [Nat.mod_add_mod, ← e j hj, ← h5 (j + 1) (by omega)]
    congr 2
    omega
  · rw [← e j hj]; exact h6 _ (by omega)
theorem LogOk.put {n : Nat} {c : List DeltaD} {f : Nat} {S : List DeltaD} {d : DeltaD} (h : LogOk n c f S) (hS : S.length < n) (hd : DOk d) : LogOk n (c.set ((f + S.length) % n) d) f (S ++ [d]) := by
  obtain ⟨h1, h2, h3, h4, h5, h6⟩ := h
  have hm : ∀ j, (f + j) % n < c.length := fun j => by rw [h2]; exact Nat.mod_lt _ (by omega)
  refine ⟨h1, by rw [List.length_set]; exact h2, h3, by simp; omega, fun j hj => ?_, fun j hj => ?_⟩ <;> rw [List.length_append, List.length_singleton] at hj <;> rcases Nat.lt_or_eq_of_le (Nat.le_of_lt_succ hj) with hj | hj
  · rw [nth_set (hm j), if_neg (Ne.symm (ring_ne hj hS)), h5 j hj, nth_apL hj]
  · subst hj; rw [nth_set (hm _), if_pos rfl, nth_apE]
  · rw [nth_apL hj]; exact h6 j hj
  · subst hj; rw [nth_apE]; exact hd
def pushD (n : Nat) (D : List DeltaD) (d : DeltaD) : List DeltaD := if n < (D ++ [d]).length then (D ++ [d]).drop 1 else D ++ [d]
def undoL (q : List DeltaD × List DeltaD) : List DeltaD × List DeltaD := if q.1.length = 0 then q else (q.1.take (q.1.length - 1), q.2 ++ [Go.Gm.nth q.1 (q.1.length - 1)])
def redoL (q : List DeltaD × List DeltaD) : List DeltaD × List DeltaD := if q.2.length = 0 then q else (q.1 ++ [Go.Gm.nth q.2 (q.2.length - 1)], q.2.take (q.2.length - 1))
theorem last_split {α : Type} [Inhabited α] {D : List α} (h : D.length ≠ 0) : D.take (D.length - 1) ++ [Go.Gm.nth D (D.length - 1)] = D := by
  rw [nth_eq (by omega), ← List.take_succ_eq_append_getElem (by omega)]
  rw [List.take_of_length_le (by omega)]
theorem undo_seq (q : List DeltaD × List DeltaD) : (undoL q).1 ++ (undoL q).2.reverse = q.1 ++ q.2.reverse := by
  unfold undoL
  split
  · rfl
  · rename_i h
    simp only [List.reverse_append, List.reverse_singleton, ← List.append_assoc]
    rw [last_split h]
theorem redo_seq (q : List DeltaD × List DeltaD) : (redoL q).1 ++ (redoL q).2.reverse = q.1 ++ q.2.reverse := by
  unfold redoL
  split
  · rfl
  · rename_i h
    conv => rhs; rw [← last_split h]
    simp
theorem undo_at {n : Nat} {c : List DeltaD} {f : Nat} {D V : List DeltaD} (h : LogOk n c f (D ++ V.reverse)) (hD : D.length ≠ 0) : Go.Gm.nth c ((f + (D.length - 1)) % n) = Go.Gm.nth D (D.length - 1) := by
  rw [h.cell _ (by rw [List.length_append]; omega), nth_apL (by omega)]
theorem redo_at {n : Nat} {c : List DeltaD} {f : Nat} {D V : List DeltaD} (h : LogOk n c f (D ++ V.reverse)) (hV : V.length ≠ 0) : Go.Gm.nth c ((f + D.length) % n) = Go.Gm.nth V (V.length - 1) := by
  rw [h.cell _ (by rw [List.length_append, List.length_reverse]; omega)]
  conv => lhs; rw [← last_split hV]
  simp only [List.reverse_append, List.reverse_singleton, List.singleton_append]
  exact nth_apE
theorem LogOk.mk0 {n : Nat} (h : n ≤ 4096) (d : DeltaD) : LogOk n (List.replicate n d) 0 ([] ++ ([] : List DeltaD).reverse) := ⟨h, by simp, Nat.zero_le _, by simp, fun j hj => absurd hj (by simp), fun j hj => absurd hj (by simp)⟩
/-- What a push makes. -/
theorem LogOk.push {n : Nat} {c : List DeltaD} {f : Nat} {D V : List DeltaD} {d : DeltaD} (h : LogOk n c f (D ++ V.reverse)) (hd : DOk d) (hn : D.length < n) : LogOk n (c.set ((f + D.length) % n) d) f (pushD n D d ++ ([] : List DeltaD).reverse) ∧ (pushD n D d).length = D.length + 1 := by
  have e : pushD n D d = D ++ [d] := if_neg (by simp; omega)
  rw [e, List.reverse_nil, List.append_nil]
  exact ⟨h.take.put hn hd, by simp⟩
theorem LogOk.pushFull {n : Nat} {c : List DeltaD} {f : Nat} {D V : List DeltaD} {d : DeltaD} (h : LogOk n c f (D ++ V.reverse)) (hd : DOk d) (h0 : n ≠ 0) (hn : D.length = n) : LogOk n (c.set (((f + 1) % n + (D.length - 1)) % n) d) ((f + 1) % n) (pushD n D d ++ ([] : List DeltaD).reverse) ∧ (pushD n D d).length = D.length - 1 + 1 := by
  have e : pushD n D d = (D ++ [d]).drop 1 := if_pos (by simp; omega)
  rw [e, List.reverse_nil, List.append_nil]
  match D, hn with
  | [], hn => simp at hn; omega
  | x :: D, hn =>
    rw [List.length_cons] at hn
    have h' := h.take.tail
    refine ⟨?_, by simp⟩
    have := h'.put (d := d) (by omega) hd
    simpa using this
theorem push_none {D : List DeltaD} (h : D.length ≤ 0) (d : DeltaD) : pushD 0 D d = D := by
  have : D = [] := List.length_eq_zero_iff.1 (by omega)
  subst this
  rfl

def logParts (v rv : Value) (n f x z : Nat) (c : List DeltaD) : List RS := [.pt (.val v) 83 [.pv (.int .i64 n), .pv (.is rv), .pv (.int .i64 f), .pv (.int .i64 x), .pv (.int .i64 z)], .ob (.val rv) (rowH 53 4 rDelta c)]
def logH (v : Value) (n : Nat) (D V : List DeltaD) : HP := .ex fun rv : Value => .ex fun c : List DeltaD => .ex fun f : Nat => .and (LogOk n c f (D ++ V.reverse)) (.star (logParts v rv n f D.length V.length c))
def noD : DeltaD := ⟨[], [], [], []⟩
def undoX (D : List DeltaD) : DeltaD := if D.length = 0 then noD else inv (Go.Gm.nth D (D.length - 1))
def redoX (V : List DeltaD) : DeltaD := if V.length = 0 then noD else Go.Gm.nth V (V.length - 1)
def emptyE (D : List DeltaD) : Int := if D.length = 0 then 15 else 0
theorem noD_le : PVsLe [.is (.slice none 0 0), .is (.slice none 0 0), .is (.slice none 0 0), .is (.slice none 0 0)] (rDelta noD) := ⟨.nilSl, .nilSl, .nilSl, .nilSl, trivial⟩
theorem noD_zero (w : World) (yy : Ys) : PVs (rDelta noD) [.slice none 0 0, .slice none 0 0, .slice none 0 0, .slice none 0 0] w yy := PVs.le noD_le ⟨⟨rfl, rfl, rfl⟩, ⟨rfl, rfl, rfl⟩, ⟨rfl, rfl, rfl⟩, ⟨rfl, rfl, rfl⟩, trivial⟩
theorem rem_nat {x n : Nat} (h : x < 9223372036854775807) : (IntKind.wrap .i64 ((x : Int))).tmod (n : Int) = ((x % n : Nat) : Int) := by
  rw [wrap_i64 (by omega), Int.tmod_eq_emod_of_nonneg (by omega)]
  omega

theorem place_c (n f i : Nat) (p q r : PV) (h0 : n ≠ 0) (hn : n ≤ 4096) (hf : f ≤ n) (hi : i ≤ n) : FnP Try.prog 44 [.ref [.int .i64 n, p, .int .i64 f, q, r], .int .i64 i] (.int .i64 ((f + i) % n : Nat)) := by
  refine FnP.mk Try.func44 rfl Try.ntmps44 rfl ?_
  intro B a w F hB hfr hS
  refine wp_seq ?_
  refine region_seq hS (by kernel_rfl)
      (Chain.cons (Cert.free rfl (o_assign (.ci (by kernel_rfl)) (by rfl))) trivial trivial
      Chain.nil)
      (by kernel_rfl) (by rw [hB]; kernel_rfl) ?_
  clear hS; intro a w F hS
  replace hS := hS.norm [(0, _), (1, _), (4, _)] [(0, _)] ⟨rfl, rfl, rfl, trivial⟩ ⟨rfl, trivial⟩
  obtain ⟨F, hS⟩ := hS
  try dsimp only [RS.sub, SF.sub, CF.sub, csub, Anc.sub, stCells, List.map, List.length_cons, List.length_nil, Nat.reduceAdd, List.drop_succ_cons, List.drop_zero, List.drop_nil, List.take_succ_cons, List.take_zero, List.take_nil, List.cons_append, List.nil_append, zCF, ldSF] at hS
  refine then_n ?_
  refine wp_seq ?_
  refine region_any (by kernel_rfl) hS (by kernel_rfl)
      (Chain.cons (Cert.free rfl (o_move .t (by rfl))) ⟨rfl, trivial⟩ trivial
      (Chain.cons (Cert.free rfl (o_nilCheck_ref .t)) ⟨rfl, trivial⟩ trivial
      (Chain.cons (Cert.free rfl (o_fieldAddr_ref (off := 2) .t (by kernel_rfl))) ⟨rfl, trivial⟩ trivial
      (Chain.cons (Cert.free rfl (o_load_ref (ag := false) (sz := 1) .t (by kernel_rfl) (by kernel_rfl) (by kernel_rfl))) ⟨rfl, trivial⟩ trivial
      (Chain.cons (Cert.free rfl (o_move .t (by rfl))) ⟨rfl, trivial⟩ trivial
      (Chain.cons (Cert.free rfl (o_add .t .t)) ⟨rfl, rfl, trivial⟩ trivial
      (Chain.cons (Cert.free rfl (o_move .t (by rfl))) ⟨rfl, trivial⟩ trivial
      (Chain.cons (Cert.free rfl (o_nilCheck_ref .t)) ⟨rfl, trivial⟩ trivial
      (Chain.cons (Cert.free rfl (o_fieldAddr_ref (off := 0) .t (by kernel_rfl))) ⟨rfl, trivial⟩ trivial
      (Chain.cons (Cert.free rfl (o_load_ref (ag := false) (sz := 1) .t (by kernel_rfl) (by kernel_rfl) (by kernel_rfl))) ⟨rfl, trivial⟩ trivial
      (Chain.cons (Cert.free rfl (o_rem .t .t (by omega))) ⟨rfl, rfl, trivial⟩ trivial
      (Chain.cons (Cert.free rfl (o_assign .t (by rfl))) ⟨rfl, trivial⟩ trivial
      Chain.nil))))))))))))
      (by kernel_rfl) (by rw [hB]; kernel_rfl) ?_
  clear hS; intro a w F hS
  replace hS := hS.norm [(4, _)] [(0, _)] ⟨rfl, trivial⟩ ⟨rfl, trivial⟩
  obtain ⟨F, hS⟩ := hS
  try dsimp only [RS.sub, SF.sub, CF.sub, csub, Anc.sub, stCells, List.map, List.length_cons, List.length_nil, Nat.reduceAdd, List.drop_succ_cons, List.drop_zero, List.drop_nil, List.take_succ_cons, List.take_zero, List.take_nil, List.cons_append, List.nil_append, zCF, ldSF] at hS
  refine then_n ?_
  refine wp_ret ?_
  refine ret_P hfr hS rfl (.tmp rfl .nil) (.one (.int (by rw [show ((f : Int) + (i : Int)) = ((f + i : Nat) : Int) by omega]; exact rem_nat (by omega))))

theorem len_c (b n : Nat) (D U : List DeltaD) : FnG Try.prog 29 1 [.is (.pointer (some ⟨b, 0, none⟩))] [logH (.pointer (some ⟨b, 0, none⟩)) n D U] (.int .i64 D.length) (fun _ => [logH (.pointer (some ⟨b, 0, none⟩)) n D U]) := by
  refine FnG.mk Try.func29 rfl Try.ntmps29 rfl (by kernel_rfl) ?_
  intro B F0 a w F hB hG hS
  obtain ⟨rv, hS⟩ := hS.open_ex 1 rfl
  obtain ⟨c, hS⟩ := hS.open_ex 1 rfl
  obtain ⟨f, hS⟩ := hS.open_ex 1 rfl
  obtain ⟨hI, hS⟩ := hS.open_and 1 rfl
  obtain ⟨F, hS⟩ := hS.peel 1 2 rfl rfl
  obtain ⟨F, hS⟩ := hS.peel 1 3 rfl rfl
  have hroom := hI.room
  have hff := hI.first
  have hfit := hI.fits
  rw [List.length_append, List.length_reverse] at hfit
  obtain ⟨F, hS⟩ := hS.norm [(0, _)] [(0, _), (2, _), (3, _)] ⟨rfl, trivial⟩ ⟨rfl, rfl, rfl, trivial⟩
  refine wp_seq ?_
  refine region_seq hS (by kernel_rfl)
      (Chain.cons (Cert.free rfl (o_assign (.ci (by kernel_rfl)) (by rfl))) trivial trivial
      Chain.nil)
      (by kernel_rfl) (by rw [hB]; kernel_rfl) ?_
  clear hS; intro a w F hS
  replace hS := hS.norm [(0, _), (2, _)] [(0, _), (2, _), (3, _)] ⟨rfl, rfl, trivial⟩ ⟨rfl, rfl, rfl, trivial⟩
  obtain ⟨F, hS⟩ := hS
  try dsimp only [RS.sub, SF.sub, CF.sub, csub, Anc.sub, stCells, List.map, List.length_cons, List.length_nil, Nat.reduceAdd, List.drop_succ_cons, List.drop_zero, List.drop_nil, List.take_succ_cons, List.take_zero, List.take_nil, List.cons_append, List.nil_append, zCF, ldSF] at hS
  refine then_n ?_
  refine wp_seq ?_
  refine wp_seq ?_
  refine region_seq hS (by kernel_rfl)
      (Chain.cons (Cert.free rfl (o_move .t (by rfl))) ⟨rfl, trivial⟩ trivial
      (Chain.cons (Cert.free rfl (o_nil_eql _ Try.underlying44 rfl .t)) ⟨rfl, trivial⟩ trivial
      Chain.nil))
      (by kernel_rfl) (by rw [hB]; kernel_rfl) ?_
  clear hS; intro a w F hS
  replace hS := hS.norm [(0, _), (2, _), (4, _)] [(0, _), (2, _), (3, _)] ⟨rfl, rfl, rfl, trivial⟩ ⟨rfl, rfl, rfl, trivial⟩
  obtain ⟨F, hS⟩ := hS
  try dsimp only [RS.sub, SF.sub, CF.sub, csub, Anc.sub, stCells, List.map, List.length_cons, List.length_nil, Nat.reduceAdd, List.drop_succ_cons, List.drop_zero, List.drop_nil, List.take_succ_cons, List.take_zero, List.take_nil, List.cons_append, List.nil_append, zCF, ldSF] at hS
  refine then_n ?_
  refine cond_b hS rfl (fun hc0 => ?_) (fun hc0 => ?_)
  · skip
    simp at hc0
  · skip
    refine wp_skip ?_
    refine then_n ?_
    refine wp_seq ?_
    refine region_seq hS (by kernel_rfl)
        (Chain.cons (Cert.free rfl (o_move .t (by rfl))) ⟨rfl, trivial⟩ trivial
        (Chain.cons (Cert.free rfl (o_nilCheck 2 .is (by rfl))) ⟨rfl, trivial⟩ ⟨rfl, trivial⟩
        (Chain.cons (Cert.free rfl (o_fieldAddr (off := 3) 2 .adr (by kernel_rfl) (by rfl))) ⟨rfl, trivial⟩ ⟨rfl, trivial⟩
        (Chain.cons (Cert.free rfl (o_load (ag := false) (sz := 1) 2 .adr (by kernel_rfl) (by kernel_rfl) (by kernel_rfl) (by rfl))) ⟨rfl, trivial⟩ ⟨rfl, trivial⟩
        (Chain.cons (Cert.free rfl (o_assign .t (by rfl))) ⟨rfl, trivial⟩ trivial
        Chain.nil)))))
        (by kernel_rfl) (by rw [hB]; kernel_rfl) ?_
    clear hS; intro a w F hS
    replace hS := hS.norm [(2, _)] [(0, _), (2, _), (3, _)] ⟨rfl, trivial⟩ ⟨rfl, rfl, rfl, trivial⟩
    obtain ⟨F, hS⟩ := hS
    try dsimp only [RS.sub, SF.sub, CF.sub, csub, Anc.sub, stCells, List.map, List.length_cons, List.length_nil, Nat.reduceAdd, List.drop_succ_cons, List.drop_zero, List.drop_nil, List.take_succ_cons, List.take_zero, List.take_nil, List.cons_append, List.nil_append, zCF, ldSF] at hS
    refine then_n ?_
    refine wp_ret ?_
    have hS := hS.fresh 1 rfl
    obtain ⟨F, hS⟩ := hS.push 1 3 rfl rfl rfl (by kernel_rfl)
    obtain ⟨F, hS⟩ := hS.push 1 2 rfl rfl rfl (by kernel_rfl)
    have hS := hS.turn 1 rfl (r' := RS.hp (logH (.pointer (some ⟨b, 0, none⟩)) n D U)) (fun _ _ _ _ h => ⟨_, _, _, hI, h⟩)
    refine ret_G1 hG hS rfl (.tmp rfl .nil) (.one .refl) rfl

theorem len_nil  : FnP Try.prog 29 [.is (.pointer none)] (.int .i64 0) := by
  refine FnP.mk Try.func29 rfl Try.ntmps29 rfl ?_
  intro B a w F hB hfr hS
  refine wp_seq ?_
  refine region_seq hS (by kernel_rfl)
      (Chain.cons (Cert.free rfl (o_assign (.ci (by kernel_rfl)) (by rfl))) trivial trivial
      Chain.nil)
      (by kernel_rfl) (by rw [hB]; kernel_rfl) ?_
  clear hS; intro a w F hS
  replace hS := hS.norm [(0, _), (2, _)] [(0, _)] ⟨rfl, rfl, trivial⟩ ⟨rfl, trivial⟩
  obtain ⟨F, hS⟩ := hS
  try dsimp only [RS.sub, SF.sub, CF.sub, csub, Anc.sub, stCells, List.map, List.length_cons, List.length_nil, Nat.reduceAdd, List.drop_succ_cons, List.drop_zero, List.drop_nil, List.take_succ_cons, List.take_zero, List.take_nil, List.cons_append, List.nil_append, zCF, ldSF] at hS
  refine then_n ?_
  refine wp_seq ?_
  refine wp_seq ?_
  refine region_seq hS (by kernel_rfl)
      (Chain.cons (Cert.free rfl (o_move .t (by rfl))) ⟨rfl, trivial⟩ trivial
      (Chain.cons (Cert.free rfl (o_nil_eql _ Try.underlying44 rfl .t)) ⟨rfl, trivial⟩ trivial
      Chain.nil))
      (by kernel_rfl) (by rw [hB]; kernel_rfl) ?_
  clear hS; intro a w F hS
  replace hS := hS.norm [(0, _), (2, _), (4, _)] [(0, _)] ⟨rfl, rfl, rfl, trivial⟩ ⟨rfl, trivial⟩
  obtain ⟨F, hS⟩ := hS
  try dsimp only [RS.sub, SF.sub, CF.sub, csub, Anc.sub, stCells, List.map, List.length_cons, List.length_nil, Nat.reduceAdd, List.drop_succ_cons, List.drop_zero, List.drop_nil, List.take_succ_cons, List.take_zero, List.take_nil, List.cons_append, List.nil_append, zCF, ldSF] at hS
  refine then_n ?_
  refine cond_b hS rfl (fun hc0 => ?_) (fun hc0 => ?_)
  · skip
    refine wp_seq ?_
    refine region_seq hS (by kernel_rfl)
        (Chain.cons (Cert.free rfl (o_assign (.ci (by kernel_rfl)) (by rfl))) trivial trivial
        Chain.nil)
        (by kernel_rfl) (by rw [hB]; kernel_rfl) ?_
    clear hS; intro a w F hS
    replace hS := hS.norm [(0, _), (2, _)] [(0, _)] ⟨rfl, rfl, trivial⟩ ⟨rfl, trivial⟩
    obtain ⟨F, hS⟩ := hS
    try dsimp only [RS.sub, SF.sub, CF.sub, csub, Anc.sub, stCells, List.map, List.length_cons, List.length_nil, Nat.reduceAdd, List.drop_succ_cons, List.drop_zero, List.drop_nil, List.take_succ_cons, List.take_zero, List.take_nil, List.cons_append, List.nil_append, zCF, ldSF] at hS
    refine then_n ?_
    refine wp_ret ?_
    refine then_r ?_
    refine ret_P hfr hS rfl (.tmp rfl .nil) (.one .refl)
  · skip
    simp at hc0

theorem ahead_c (b n : Nat) (D U : List DeltaD) : FnG Try.prog 30 1 [.is (.pointer (some ⟨b, 0, none⟩))] [logH (.pointer (some ⟨b, 0, none⟩)) n D U] (.int .i64 U.length) (fun _ => [logH (.pointer (some ⟨b, 0, none⟩)) n D U]) := by
  refine FnG.mk Try.func30 rfl Try.ntmps30 rfl (by kernel_rfl) ?_
  intro B F0 a w F hB hG hS
  obtain ⟨rv, hS⟩ := hS.open_ex 1 rfl
  obtain ⟨c, hS⟩ := hS.open_ex 1 rfl
  obtain ⟨f, hS⟩ := hS.open_ex 1 rfl
  obtain ⟨hI, hS⟩ := hS.open_and 1 rfl
  obtain ⟨F, hS⟩ := hS.peel 1 2 rfl rfl
  obtain ⟨F, hS⟩ := hS.peel 1 3 rfl rfl
  have hroom := hI.room
  have hff := hI.first
  have hfit := hI.fits
  rw [List.length_append, List.length_reverse] at hfit
  obtain ⟨F, hS⟩ := hS.norm [(0, _)] [(0, _), (2, _), (3, _)] ⟨rfl, trivial⟩ ⟨rfl, rfl, rfl, trivial⟩
  refine wp_seq ?_
  refine region_seq hS (by kernel_rfl)
      (Chain.cons (Cert.free rfl (o_assign (.ci (by kernel_rfl)) (by rfl))) trivial trivial
      Chain.nil)
      (by kernel_rfl) (by rw [hB]; kernel_rfl) ?_
  clear hS; intro a w F hS
  replace hS := hS.norm [(0, _), (2, _)] [(0, _), (2, _), (3, _)] ⟨rfl, rfl, trivial⟩ ⟨rfl, rfl, rfl, trivial⟩
  obtain ⟨F, hS⟩ := hS
  try dsimp only [RS.sub, SF.sub, CF.sub, csub, Anc.sub, stCells, List.map, List.length_cons, List.length_nil, Nat.reduceAdd, List.drop_succ_cons, List.drop_zero, List.drop_nil, List.take_succ_cons, List.take_zero, List.take_nil, List.cons_append, List.nil_append, zCF, ldSF] at hS
  refine then_n ?_
  refine wp_seq ?_
  refine wp_seq ?_
  refine region_seq hS (by kernel_rfl)
      (Chain.cons (Cert.free rfl (o_move .t (by rfl))) ⟨rfl, trivial⟩ trivial
      (Chain.cons (Cert.free rfl (o_nil_eql _ Try.underlying44 rfl .t)) ⟨rfl, trivial⟩ trivial
      Chain.nil))
      (by kernel_rfl) (by rw [hB]; kernel_rfl) ?_
  clear hS; intro a w F hS
  replace hS := hS.norm [(0, _), (2, _), (4, _)] [(0, _), (2, _), (3, _)] ⟨rfl, rfl, rfl, trivial⟩ ⟨rfl, rfl, rfl, trivial⟩
  obtain ⟨F, hS⟩ := hS
  try dsimp only [RS.sub, SF.sub, CF.sub, csub, Anc.sub, stCells, List.map, List.length_cons, List.length_nil, Nat.reduceAdd, List.drop_succ_cons, List.drop_zero, List.drop_nil, List.take_succ_cons, List.take_zero, List.take_nil, List.cons_append, List.nil_append, zCF, ldSF] at hS
  refine then_n ?_
  refine cond_b hS rfl (fun hc0 => ?_) (fun hc0 => ?_)
  · skip
    simp at hc0
  · skip
    refine wp_skip ?_
    refine then_n ?_
    refine wp_seq ?_
    refine region_seq hS (by kernel_rfl)
        (Chain.cons (Cert.free rfl (o_move .t (by rfl))) ⟨rfl, trivial⟩ trivial
        (Chain.cons (Cert.free rfl (o_nilCheck 2 .is (by rfl))) ⟨rfl, trivial⟩ ⟨rfl, trivial⟩
        (Chain.cons (Cert.free rfl (o_fieldAddr (off := 4) 2 .adr (by kernel_rfl) (by rfl))) ⟨rfl, trivial⟩ ⟨rfl, trivial⟩
        (Chain.cons (Cert.free rfl (o_load (ag := false) (sz := 1) 2 .adr (by kernel_rfl) (by kernel_rfl) (by kernel_rfl) (by rfl))) ⟨rfl, trivial⟩ ⟨rfl, trivial⟩
        (Chain.cons (Cert.free rfl (o_assign .t (by rfl))) ⟨rfl, trivial⟩ trivial
        Chain.nil)))))
        (by kernel_rfl) (by rw [hB]; kernel_rfl) ?_
    clear hS; intro a w F hS
    replace hS := hS.norm [(2, _)] [(0, _), (2, _), (3, _)] ⟨rfl, trivial⟩ ⟨rfl, rfl, rfl, trivial⟩
    obtain ⟨F, hS⟩ := hS
    try dsimp only [RS.sub, SF.sub, CF.sub, csub, Anc.sub, stCells, List.map, List.length_cons, List.length_nil, Nat.reduceAdd, List.drop_succ_cons, List.drop_zero, List.drop_nil, List.take_succ_cons, List.take_zero, List.take_nil, List.cons_append, List.nil_append, zCF, ldSF] at hS
    refine then_n ?_
    refine wp_ret ?_
    have hS := hS.fresh 1 rfl
    obtain ⟨F, hS⟩ := hS.push 1 3 rfl rfl rfl (by kernel_rfl)
    obtain ⟨F, hS⟩ := hS.push 1 2 rfl rfl rfl (by kernel_rfl)
    have hS := hS.turn 1 rfl (r' := RS.hp (logH (.pointer (some ⟨b, 0, none⟩)) n D U)) (fun _ _ _ _ h => ⟨_, _, _, hI, h⟩)
    refine ret_G1 hG hS rfl (.tmp rfl .nil) (.one .refl) rfl

theorem ahead_nil  : FnP Try.prog 30 [.is (.pointer none)] (.int .i64 0) := by
  refine FnP.mk Try.func30 rfl Try.ntmps30 rfl ?_
  intro B a w F hB hfr hS
  refine wp_seq ?_
  refine region_seq hS (by kernel_rfl)
      (Chain.cons (Cert.free rfl (o_assign (.ci (by kernel_rfl)) (by rfl))) trivial trivial
      Chain.nil)
      (by kernel_rfl) (by rw [hB]; kernel_rfl) ?_
  clear hS; intro a w F hS
  replace hS := hS.norm [(0, _), (2, _)] [(0, _)] ⟨rfl, rfl, trivial⟩ ⟨rfl, trivial⟩
  obtain ⟨F, hS⟩ := hS
  try dsimp only [RS.sub, SF.sub, CF.sub, csub, Anc.sub, stCells, List.map, List.length_cons, List.length_nil, Nat.reduceAdd, List.drop_succ_cons, List.drop_zero, List.drop_nil, List.take_succ_cons, List.take_zero, List.take_nil, List.cons_append, List.nil_append, zCF, ldSF] at hS
  refine then_n ?_
  refine wp_seq ?_
  refine wp_seq ?_
  refine region_seq hS (by kernel_rfl)
      (Chain.cons (Cert.free rfl (o_move .t (by rfl))) ⟨rfl, trivial⟩ trivial
      (Chain.cons (Cert.free rfl (o_nil_eql _ Try.underlying44 rfl .t)) ⟨rfl, trivial⟩ trivial
      Chain.nil))
      (by kernel_rfl) (by rw [hB]; kernel_rfl) ?_
  clear hS; intro a w F hS
  replace hS := hS.norm [(0, _), (2, _), (4, _)] [(0, _)] ⟨rfl, rfl, rfl, trivial⟩ ⟨rfl, trivial⟩
  obtain ⟨F, hS⟩ := hS
  try dsimp only [RS.sub, SF.sub, CF.sub, csub, Anc.sub, stCells, List.map, List.length_cons, List.length_nil, Nat.reduceAdd, List.drop_succ_cons, List.drop_zero, List.drop_nil, List.take_succ_cons, List.take_zero, List.take_nil, List.cons_append, List.nil_append, zCF, ldSF] at hS
  refine then_n ?_
  refine cond_b hS rfl (fun hc0 => ?_) (fun hc0 => ?_)
  · skip
    refine wp_seq ?_
    refine region_seq hS (by kernel_rfl)
        (Chain.cons (Cert.free rfl (o_assign (.ci (by kernel_rfl)) (by rfl))) trivial trivial
        Chain.nil)
        (by kernel_rfl) (by rw [hB]; kernel_rfl) ?_
    clear hS; intro a w F hS
    replace hS := hS.norm [(0, _), (2, _)] [(0, _)] ⟨rfl, rfl, trivial⟩ ⟨rfl, trivial⟩
    obtain ⟨F, hS⟩ := hS
    try dsimp only [RS.sub, SF.sub, CF.sub, csub, Anc.sub, stCells, List.map, List.length_cons, List.length_nil, Nat.reduceAdd, List.drop_succ_cons, List.drop_zero, List.drop_nil, List.take_succ_cons, List.take_zero, List.take_nil, List.cons_append, List.nil_append, zCF, ldSF] at hS
    refine then_n ?_
    refine wp_ret ?_
    refine then_r ?_
    refine ret_P hfr hS rfl (.tmp rfl .nil) (.one .refl)
  · skip
    simp at hc0

end Go.Proofs.Ytmdhidjpnmkmjaa
