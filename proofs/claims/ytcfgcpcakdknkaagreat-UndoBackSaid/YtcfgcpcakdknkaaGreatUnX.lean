/- Un1, Un2, Un3, Un4, Un5, in one text. -/
import Derived.Test.YtcfgcpcakdknkaaGreatDaX
import Derived.Test.YtcfgcpcakdknkaaGreatLibW
import Derived.Test.YtcfgcpcakdknkaaGreatDl0
import Derived.Test.YtcfgcpcakdknkaaGreatDl3
namespace Go.Proofs.YtcfgcpcakdknkaaGreat
open Go Go.Gm
set_option linter.unusedVariables false
set_option linter.unusedSimpArgs false
set_option maxHeartbeats 4000000
set_option maxRecDepth 8000

theorem ring_ne {n f j k : Nat} (h1 : j < k) (h2 : k < n) : (f + j) % n ≠ (f + k) % n := by
  intro e
  have h := Nat.sub_mod_eq_zero_of_mod_eq e.symm
  rw [show f + k - (f + j) = k - j by omega, Nat.mod_eq_of_lt (by omega)] at h
  omega
theorem nth_apL {α : Type} [Inhabited α] {q r : List α} {i : Nat} (h : i < q.length) : Go.Gm.nth (q ++ r) i = Go.Gm.nth q i := by
  rw [nth_eq h, nth_eq (by simp; omega), List.getElem_append_left h]
theorem nth_apE {α : Type} [Inhabited α] {q r : List α} {c : α} : Go.Gm.nth (q ++ c :: r) q.length = c := by rw [nth_eq (by simp)]; simp
theorem nth_set {α : Type} [Inhabited α] {q : List α} {c : α} {i j : Nat} (h : j < q.length) : Go.Gm.nth (q.set i c) j = if i = j then c else Go.Gm.nth q j := by
  rw [nth_eq (by simpa using h), nth_eq h, List.getElem_set]
structure LogOk (n : Nat) (c : List DeltaD) (f : Nat) (S : List DeltaD) : Prop where
  room : n ≤ 4096
  len : c.length = n
  first : f ≤ n
  fits : S.length ≤ n
  cell : ∀ j, j < S.length → Go.Gm.nth c ((f + j) % n) = Go.Gm.nth S j
  ok : ∀ j, j < S.length → DOk (Go.Gm.nth S j)
theorem LogOk.take {n : Nat} {c : List DeltaD} {f : Nat} {S T : List DeltaD} (h : LogOk n c f (S ++ T)) : LogOk n c f S := by
  obtain ⟨h1, h2, h3, h4, h5, h6⟩ := h
  rw [List.length_append] at h4 h5 h6
  refine ⟨h1, h2, h3, by omega, fun j hj => ?_, fun j hj => ?_⟩
  · rw [h5 j (by omega), nth_apL hj]
  · have := h6 j (by omega); rwa [nth_apL hj] at this
theorem LogOk.tail {n : Nat} {c : List DeltaD} {f : Nat} {x : DeltaD} {S : List DeltaD} (h : LogOk n c f (x :: S)) : LogOk n c ((f + 1) % n) S := by
  obtain ⟨h1, h2, h3, h4, h5, h6⟩ := h
  rw [List.length_cons] at h4 h5 h6
  have e : ∀ j, j < S.length → Go.Gm.nth (x :: S) (j + 1) = Go.Gm.nth S j := fun j hj => by rw [nth_eq (by simpa using hj), nth_eq hj]; rfl
  refine ⟨h1, h2, Nat.le_of_lt (Nat.mod_lt _ (by omega)), by omega, fun j hj => ?_, fun j hj => ?_⟩
  · rw [Nat.mod_add_mod, ← e j hj, ← h5 (j + 1) (by omega)]
    congr 2
    omega
  · rw [← e j hj]; exact h6 _ (by omega)
theorem LogOk.put {n : Nat} {c : List DeltaD} {f : Nat} {S : List DeltaD} {d : DeltaD} (h : LogOk n c f S) (hS : S.length < n) (hd : DOk d) : LogOk n (c.set ((f + S.length) % n) d) f (S ++ [d]) := by
  obtain ⟨h1, h2, h3, h4, h5, h6⟩ := h
  have hm : ∀ j, (f + j) % n < c.length := fun j => by rw [h2]; exact Nat.mod_lt _ (by omega)
  refine ⟨h1, by rw [List.length_set]; exact h2, h3, by simp; omega, fun j hj => ?_, fun j hj => ?_⟩ <;> rw [List.length_append, List.length_singleton] at hj <;> rcases Nat.lt_or_eq_of_le (Nat.le_of_lt_succ hj) with hj | hj
  · rw [nth_set (hm j), if_neg (Ne.symm (ring_ne hj hS)), h5 j hj, nth_apL hj]
  · subst hj; rw [nth_set (hm _), if_pos rfl, nth_apE]
  · rw [nth_apL hj]; exact h6 j hj
  · subst hj; rw [nth_apE]; exact hd
def pushD (n : Nat) (D : List DeltaD) (d : DeltaD) : List DeltaD := if n < (D ++ [d]).length then (D ++ [d]).drop 1 else D ++ [d]
def undoL (q : List DeltaD × List DeltaD) : List DeltaD × List DeltaD := if q.1.length = 0 then q else (q.1.take (q.1.length - 1), q.2 ++ [Go.Gm.nth q.1 (q.1.length - 1)])
def redoL (q : List DeltaD × List DeltaD) : List DeltaD × List DeltaD := if q.2.length = 0 then q else (q.1 ++ [Go.Gm.nth q.2 (q.2.length - 1)], q.2.take (q.2.length - 1))
theorem last_split {α : Type} [Inhabited α] {D : List α} (h : D.length ≠ 0) : D.take (D.length - 1) ++ [Go.Gm.nth D (D.length - 1)] = D := by
  rw [nth_eq (by omega), ← List.take_succ_eq_append_getElem (by omega)]
  rw [List.take_of_length_le (by omega)]
theorem undo_seq (q : List DeltaD × List DeltaD) : (undoL q).1 ++ (undoL q).2.reverse = q.1 ++ q.2.reverse := by
  unfold undoL
  split
  · rfl
  · rename_i h
    simp only [List.reverse_append, List.reverse_singleton, ← List.append_assoc]
    rw [last_split h]
theorem redo_seq (q : List DeltaD × List DeltaD) : (redoL q).1 ++ (redoL q).2.reverse = q.1 ++ q.2.reverse := by
  unfold redoL
  split
  · rfl
  · rename_i h
    conv => rhs; rw [← last_split h]
    simp
theorem undo_at {n : Nat} {c : List DeltaD} {f : Nat} {D V : List DeltaD} (h : LogOk n c f (D ++ V.reverse)) (hD : D.length ≠ 0) : Go.Gm.nth c ((f + (D.length - 1)) % n) = Go.Gm.nth D (D.length - 1) := by
  rw [h.cell _ (by rw [List.length_append]; omega), nth_apL (by omega)]
theorem redo_at {n : Nat} {c : List DeltaD} {f : Nat} {D V : List DeltaD} (h : LogOk n c f (D ++ V.reverse)) (hV : V.length ≠ 0) : Go.Gm.nth c ((f + D.length) % n) = Go.Gm.nth V (V.length - 1) := by
  rw [h.cell _ (by rw [List.length_append, List.length_reverse]; omega)]
  conv => lhs; rw [← last_split hV]
  simp only [List.reverse_append, List.reverse_singleton, List.singleton_append]
  exact nth_apE
theorem LogOk.mk0 {n : Nat} (h : n ≤ 4096) (d : DeltaD) : LogOk n (List.replicate n d) 0 ([] ++ ([] : List DeltaD).reverse) := ⟨h, by simp, Nat.zero_le _, by simp, fun j hj => absurd hj (by simp), fun j hj => absurd hj (by simp)⟩
/-- What a push makes. -/
theorem LogOk.push {n : Nat} {c : List DeltaD} {f : Nat} {D V : List DeltaD} {d : DeltaD} (h : LogOk n c f (D ++ V.reverse)) (hd : DOk d) (hn : D.length < n) : LogOk n (c.set ((f + D.length) % n) d) f (pushD n D d ++ ([] : List DeltaD).reverse) ∧ (pushD n D d).length = D.length + 1 := by
  have e : pushD n D d = D ++ [d] := if_neg (by simp; omega)
  rw [e, List.reverse_nil, List.append_nil]
  exact ⟨h.take.put hn hd, by simp⟩
theorem LogOk.pushFull {n : Nat} {c : List DeltaD} {f : Nat} {D V : List DeltaD} {d : DeltaD} (h : LogOk n c f (D ++ V.reverse)) (hd : DOk d) (h0 : n ≠ 0) (hn : D.length = n) : LogOk n (c.set (((f + 1) % n + (D.length - 1)) % n) d) ((f + 1) % n) (pushD n D d ++ ([] : List DeltaD).reverse) ∧ (pushD n D d).length = D.length - 1 + 1 := by
  have e : pushD n D d = (D ++ [d]).drop 1 := if_pos (by simp; omega)
  rw [e, List.reverse_nil, List.append_nil]
  match D, hn with
  | [], hn => simp at hn; omega
  | x :: D, hn =>
    rw [List.length_cons] at hn
    have h' := h.take.tail
    refine ⟨?_, by simp⟩
    have := h'.put (d := d) (by omega) hd
    simpa using this
def logParts (v rv : Value) (n f x z : Nat) (c : List DeltaD) : List RS := [.pt (.val v) 65 [.pv (.int .i64 n), .pv (.is rv), .pv (.int .i64 f), .pv (.int .i64 x), .pv (.int .i64 z)], .ob (.val rv) (rowH 44 4 rDelta c)]
def logH (v : Value) (n : Nat) (D V : List DeltaD) : HP := .ex fun rv : Value => .ex fun c : List DeltaD => .ex fun f : Nat => .and (LogOk n c f (D ++ V.reverse)) (.star (logParts v rv n f D.length V.length c))
def undoX (D : List DeltaD) : DeltaD := if D.length = 0 then noD else inv (Go.Gm.nth D (D.length - 1))
def redoX (V : List DeltaD) : DeltaD := if V.length = 0 then noD else Go.Gm.nth V (V.length - 1)
def emptyE (D : List DeltaD) : Int := if D.length = 0 then 15 else 0
theorem noD_zero (w : World) (yy : Ys) : PVs (rDelta noD) [.slice none 0 0, .slice none 0 0, .slice none 0 0, .slice none 0 0] w yy := PVs.le noD_le ⟨⟨rfl, rfl, rfl⟩, ⟨rfl, rfl, rfl⟩, ⟨rfl, rfl, rfl⟩, ⟨rfl, rfl, rfl⟩, trivial⟩
theorem rem_nat {x n : Nat} (h : x < 9223372036854775807) : (IntKind.wrap .i64 ((x : Int))).tmod (n : Int) = ((x % n : Nat) : Int) := by
  rw [wrap_i64 (by omega), Int.tmod_eq_emod_of_nonneg (by omega)]
  omega

theorem place_c (n f i : Nat) (p q r : PV) (h0 : n ≠ 0) (hn : n ≤ 4096) (hf : f ≤ n) (hi : i ≤ n) : FnP Tryz.prog 47 [.ref [.int .i64 n, p, .int .i64 f, q, r], .int .i64 i] (.int .i64 ((f + i) % n : Nat)) := by
  refine FnP.mk Tryz.func47 rfl Tryz.ntmps47 rfl ?_
  intro B a w F hB hfr hS
  refine wp_seq ?_
  refine region_z hS (qf (oN qi) trivial qz qZ) hB [4, 1, 0] [0] rfl rfl ?_
  clear hS; intro a w F hS
  refine then_n (wp_seq ?_)
  refine region_any (by kernel_rfl) hS (by kernel_rfl) (qM rfl rfl (qf (o_nilCheck_ref .t) r1 qz (qf (oG 2 .t) r1 qz (qf (oR false 1 .t) r1 qz (qM rfl rfl (qf (o_add .t .t) r2 qz (qM rfl rfl (qf (o_nilCheck_ref .t) r1 qz (qf (oG 0 .t) r1 qz (qf (oR false 1 .t) r1 qz (qf (o_rem .t .t (by omega)) r2 qz (qN rfl rfl qZ)))))))))))) (by kernel_rfl) (by rw [hB]; kernel_rfl) ?_
  clear hS; intro a w F hS
  obtain ⟨F, hS⟩ := hS.nm [4] [0] rfl rfl
  try dsimp only [List.map, xD, xE, xT, xU, ldSF] at hS
  refine then_n (wp_ret ?_)
  refine ret_P hfr hS rfl (.tmp rfl .nil) (.one (.int (by rw [show ((f : Int) + (i : Int)) = ((f + i : Nat) : Int) by omega]; exact rem_nat (by omega))))

theorem len_c (b n : Nat) (D U : List DeltaD) : FnG Tryz.prog 13 1 [.is (.pointer (some ⟨b, 0, none⟩))] [logH (.pointer (some ⟨b, 0, none⟩)) n D U] (.int .i64 D.length) (fun _ => [logH (.pointer (some ⟨b, 0, none⟩)) n D U]) := by
  refine FnG.mk Tryz.func13 rfl Tryz.ntmps13 rfl (by kernel_rfl) ?_
  intro B F0 a w F hB hG hS
  obtain ⟨rv, hS⟩ := hS.open_ex 1 rfl
  obtain ⟨c, hS⟩ := hS.open_ex 1 rfl
  obtain ⟨f, hS⟩ := hS.open_ex 1 rfl
  obtain ⟨hI, hS⟩ := hS.open_and 1 rfl
  obtain ⟨F, hS⟩ := hS.peel 1 2 rfl rfl
  obtain ⟨F, hS⟩ := hS.peel 1 3 rfl rfl
  have hroom := hI.room
  have hff := hI.first
  have hfit := hI.fits
  rw [List.length_append, List.length_reverse] at hfit
  obtain ⟨F, hS⟩ := hS.nm [0] [3, 2, 0] rfl rfl
  refine wp_seq ?_
  refine region_z hS (qf (oN qi) trivial qz qZ) hB [2, 0] [3, 2, 0] rfl rfl ?_
  clear hS; intro a w F hS
  refine then_n (wp_seq (wp_seq ?_))
  refine region_z hS (qM rfl rfl (qf (o_nil_eql _ Tryz.underlying24 rfl .t) r1 qz qZ)) hB [4, 2, 0] [3, 2, 0] rfl rfl ?_
  clear hS; intro a w F hS
  refine then_n ?_
  refine cond_b hS rfl (fun hc0 => ?_) (fun hc0 => ?_)
  ·skip
   simp at hc0
  refine wp_skip (then_n (wp_seq ?_))
  refine region_z hS (qM rfl rfl (qf (o_nilCheck 2 .is (by rfl)) r1 r1 (qf (oF 3 2 .adr) r1 r1 (qf (oL false 1 2 .adr) r1 r1 (qN rfl rfl qZ))))) hB [2] [3, 2, 0] rfl rfl ?_
  clear hS; intro a w F hS
  refine then_n (wp_ret ?_)
  have hS := hS.fresh 1 rfl
  obtain ⟨F, hS⟩ := hS.push 1 3 rfl rfl rfl (by kernel_rfl)
  obtain ⟨F, hS⟩ := hS.push 1 2 rfl rfl rfl (by kernel_rfl)
  have hS := hS.turn 1 rfl (r' := RS.hp (logH (.pointer (some ⟨b, 0, none⟩)) n D U)) (fun _ _ _ _ h => ⟨_, _, _, hI, h⟩)
  refine ret_G1 hG hS rfl (.tmp rfl .nil) (.one .refl) rfl

theorem len_nil  : FnP Tryz.prog 13 [.is (.pointer none)] (.int .i64 0) := by
  refine FnP.mk Tryz.func13 rfl Tryz.ntmps13 rfl ?_
  intro B a w F hB hfr hS
  refine wp_seq ?_
  refine region_z hS (qf (oN qi) trivial qz qZ) hB [2, 0] [0] rfl rfl ?_
  clear hS; intro a w F hS
  refine then_n (wp_seq (wp_seq ?_))
  refine region_z hS (qM rfl rfl (qf (o_nil_eql _ Tryz.underlying24 rfl .t) r1 qz qZ)) hB [4, 2, 0] [0] rfl rfl ?_
  clear hS; intro a w F hS
  refine then_n ?_
  refine cond_b hS rfl (fun hc0 => ?_) (fun hc0 => ?_)
  ·skip
   refine wp_seq ?_
   refine region_z hS (qf (oN qi) trivial qz qZ) hB [2, 0] [0] rfl rfl ?_
   clear hS; intro a w F hS
   refine then_n (wp_ret (then_r ?_))
   refine ret_P hfr hS rfl (.tmp rfl .nil) (.one .refl)
  simp at hc0

theorem ahead_c (b n : Nat) (D U : List DeltaD) : FnG Tryz.prog 19 1 [.is (.pointer (some ⟨b, 0, none⟩))] [logH (.pointer (some ⟨b, 0, none⟩)) n D U] (.int .i64 U.length) (fun _ => [logH (.pointer (some ⟨b, 0, none⟩)) n D U]) := by
  refine FnG.mk Tryz.func19 rfl Tryz.ntmps19 rfl (by kernel_rfl) ?_
  intro B F0 a w F hB hG hS
  obtain ⟨rv, hS⟩ := hS.open_ex 1 rfl
  obtain ⟨c, hS⟩ := hS.open_ex 1 rfl
  obtain ⟨f, hS⟩ := hS.open_ex 1 rfl
  obtain ⟨hI, hS⟩ := hS.open_and 1 rfl
  obtain ⟨F, hS⟩ := hS.peel 1 2 rfl rfl
  obtain ⟨F, hS⟩ := hS.peel 1 3 rfl rfl
  have hroom := hI.room
  have hff := hI.first
  have hfit := hI.fits
  rw [List.length_append, List.length_reverse] at hfit
  obtain ⟨F, hS⟩ := hS.nm [0] [3, 2, 0] rfl rfl
  refine wp_seq ?_
  refine region_z hS (qf (oN qi) trivial qz qZ) hB [2, 0] [3, 2, 0] rfl rfl ?_
  clear hS; intro a w F hS
  refine then_n (wp_seq (wp_seq ?_))
  refine region_z hS (qM rfl rfl (qf (o_nil_eql _ Tryz.underlying24 rfl .t) r1 qz qZ)) hB [4, 2, 0] [3, 2, 0] rfl rfl ?_
  clear hS; intro a w F hS
  refine then_n ?_
  refine cond_b hS rfl (fun hc0 => ?_) (fun hc0 => ?_)
  ·skip
   simp at hc0
  refine wp_skip (then_n (wp_seq ?_))
  refine region_z hS (qM rfl rfl (qf (o_nilCheck 2 .is (by rfl)) r1 r1 (qf (oF 4 2 .adr) r1 r1 (qf (oL false 1 2 .adr) r1 r1 (qN rfl rfl qZ))))) hB [2] [3, 2, 0] rfl rfl ?_
  clear hS; intro a w F hS
  refine then_n (wp_ret ?_)
  have hS := hS.fresh 1 rfl
  obtain ⟨F, hS⟩ := hS.push 1 3 rfl rfl rfl (by kernel_rfl)
  obtain ⟨F, hS⟩ := hS.push 1 2 rfl rfl rfl (by kernel_rfl)
  have hS := hS.turn 1 rfl (r' := RS.hp (logH (.pointer (some ⟨b, 0, none⟩)) n D U)) (fun _ _ _ _ h => ⟨_, _, _, hI, h⟩)
  refine ret_G1 hG hS rfl (.tmp rfl .nil) (.one .refl) rfl

theorem ahead_nil  : FnP Tryz.prog 19 [.is (.pointer none)] (.int .i64 0) := by
  refine FnP.mk Tryz.func19 rfl Tryz.ntmps19 rfl ?_
  intro B a w F hB hfr hS
  refine wp_seq ?_
  refine region_z hS (qf (oN qi) trivial qz qZ) hB [2, 0] [0] rfl rfl ?_
  clear hS; intro a w F hS
  refine then_n (wp_seq (wp_seq ?_))
  refine region_z hS (qM rfl rfl (qf (o_nil_eql _ Tryz.underlying24 rfl .t) r1 qz qZ)) hB [4, 2, 0] [0] rfl rfl ?_
  clear hS; intro a w F hS
  refine then_n ?_
  refine cond_b hS rfl (fun hc0 => ?_) (fun hc0 => ?_)
  ·skip
   refine wp_seq ?_
   refine region_z hS (qf (oN qi) trivial qz qZ) hB [2, 0] [0] rfl rfl ?_
   clear hS; intro a w F hS
   refine then_n (wp_ret (then_r ?_))
   refine ret_P hfr hS rfl (.tmp rfl .nil) (.one .refl)
  simp at hc0

end Go.Proofs.YtcfgcpcakdknkaaGreat
namespace Go.Proofs.YtcfgcpcakdknkaaGreat
open Go Go.Gm
set_option linter.unusedVariables false
set_option linter.unusedSimpArgs false
set_option maxHeartbeats 4000000
set_option maxRecDepth 8000

theorem push_c (b n : Nat) (D U : List DeltaD) (d : DeltaD) (hd : DOk d) : FnG Tryz.prog 12 1 [.is (.pointer (some ⟨b, 0, none⟩)), .agg (rDelta d)] [logH (.pointer (some ⟨b, 0, none⟩)) n D U] (.tup []) (fun _ => [logH (.pointer (some ⟨b, 0, none⟩)) n (pushD n D d) ([] : List DeltaD)]) := by
  refine FnG.mk Tryz.func12 rfl Tryz.ntmps12 rfl (by kernel_rfl) ?_
  intro B F0 a w F hB hG hS
  obtain ⟨rv, hS⟩ := hS.open_ex 1 rfl
  obtain ⟨c, hS⟩ := hS.open_ex 1 rfl
  obtain ⟨f, hS⟩ := hS.open_ex 1 rfl
  obtain ⟨hI, hS⟩ := hS.open_and 1 rfl
  obtain ⟨F, hS⟩ := hS.peel 1 2 rfl rfl
  obtain ⟨F, hS⟩ := hS.peel 1 3 rfl rfl
  have hroom := hI.room
  have hff := hI.first
  have hfit := hI.fits
  rw [List.length_append, List.length_reverse] at hfit
  obtain ⟨F, hS⟩ := hS.nm [1, 0] [3, 2, 0] rfl rfl
  refine wp_seq ?_
  refine region_q hS (qf (oX 101 (.conv .t .agg)) r1 qz qZ) hB ?_
  clear hS; intro a w F hS
  replace hS := hS.sub
  obtain ⟨F, hS⟩ := hS.nm [3, 0] [101, 3, 2, 0] rfl rfl
  try dsimp only [RS.sub, SF.sub, CF.sub, csub, Anc.sub, List.map, zCF] at hS
  generalize Act.tau a 3 = v3 at hS
  refine then_n (wp_seq (wp_seq ?_))
  refine region_z hS (qM rfl rfl (qf (o_nil_eql _ Tryz.underlying24 rfl .t) r1 qz (qM rfl rfl (qm rfl rfl rfl rfl (qk rfl (fun h => o_nilCheck 2 (.w h .is) (by rfl)) r2 r1 (qk rfl (fun h => oF 0 2 (.w h .adr)) r2 r1 (qk rfl (fun h => oL false 1 2 (.w h .adr)) r2 r1 (qk rfl (fun h => o_eql (.w h) qi) r2 qz (qf (o_or2 .t .t) r2 qz qZ))))))))) hB [12, 3, 0] [101, 3, 2, 0] rfl rfl ?_
  clear hS; intro a w F hS
  refine then_n ?_
  refine cond_b hS rfl (fun hc0 => ?_) (fun hc0 => ?_)
  ·skip
   have hn0 : n = 0 := by simp at hc0; omega
   have hD0 : D = [] := List.length_eq_zero_iff.1 (by omega)
   have hU0 : U = [] := List.length_eq_zero_iff.1 (by omega)
   subst hn0
   subst hD0
   subst hU0
   refine wp_ret (then_r ?_)
   have hS := hS.fresh 1 rfl
   obtain ⟨F, hS⟩ := hS.push 1 3 rfl rfl rfl (by kernel_rfl)
   obtain ⟨F, hS⟩ := hS.push 1 2 rfl rfl rfl (by kernel_rfl)
   have hS := hS.turn 1 rfl (r' := RS.hp (logH (.pointer (some ⟨b, 0, none⟩)) 0 (pushD 0 [] d) [])) (fun _ _ _ _ h => ⟨_, _, _, hI, h⟩)
   refine ret_G1 hG hS rfl .nil Tells.none rfl
  have h0 : n ≠ 0 := by simp at hc0; omega
  refine wp_skip (then_n (wp_seq (wp_seq ?_)))
  refine region_any (by kernel_rfl) hS (by kernel_rfl) (qM rfl rfl (qf (o_nilCheck 2 .is (by rfl)) r1 r1 (qf (oF 3 2 .adr) r1 r1 (qf (oL false 1 2 .adr) r1 r1 (qM rfl rfl (qf (o_nilCheck 2 .is (by rfl)) r1 r1 (qf (oF 0 2 .adr) r1 r1 (qf (oL false 1 2 .adr) r1 r1 (qf (o_eql .t .t) r2 qz qZ))))))))) (by kernel_rfl) (by rw [hB]; kernel_rfl) ?_
  clear hS; intro a w F hS
  obtain ⟨F, hS⟩ := hS.nm [21, 3, 0] [101, 3, 2, 0] rfl rfl
  try dsimp only [List.map, xD, xE, xT, xU, ldSF] at hS
  refine then_n ?_
  refine cond_b hS rfl (fun hc1 => ?_) (fun hc1 => ?_)
  ·skip
   have hfull : D.length = n := by simp at hc1; omega
   refine wp_seq ?_
   refine region_z hS (qM rfl rfl (qM rfl rfl (qf (o_callR (cells := [.pv _, .pv _, .pv _, .pv _, .pv _]) 2 (place_c n f 1 _ _ _ h0 hroom hff (by omega)) (fun _ _ _ _ _ h => h) rfl Tryz.func47 rfl (by kernel_rfl) (ArgsLent.two .is qi)) r1 r1 (qf (o_nilCheck 2 .is (by rfl)) r1 r1 (qf (oF 2 2 .adr) r1 r1 (qf (o_store1 2 .adr .t one_int (by kernel_rfl) (by kernel_rfl)) r2 r1 qZ)))))) hB [3, 0] [101, 3, 2, 0] rfl rfl ?_
   clear hS; intro a w F hS
   obtain ⟨g, hge⟩ : ∃ g, g = (f + 1) % n := ⟨_, rfl⟩
   rw [← hge] at hS
   have hg : g ≤ n := by rw [hge]; exact Nat.le_of_lt (Nat.mod_lt _ (Nat.pos_of_ne_zero h0))
   refine then_n ?_
   refine region_z hS (qM rfl rfl (qf (o_nilCheck 2 .is (by rfl)) r1 r1 (qf (oF 3 2 .adr) r1 r1 (qf (oL false 1 2 .adr) r1 r1 (qf (o_sub .t qi) r1 qz (qf (o_nilCheck 2 .is (by rfl)) r1 r1 (qf (oF 3 2 .adr) r1 r1 (qf (o_store1 2 .adr .t one_int (by kernel_rfl) (by kernel_rfl)) r2 r1 qZ)))))))) hB [3, 0] [101, 3, 2, 0] rfl rfl ?_
   clear hS; intro a w F hS
   obtain ⟨k, hke⟩ : ∃ k, k = D.length - 1 := ⟨_, rfl⟩
   rw [show IntKind.wrap .i64 ((D.length : Int) - 1) = (k : Int) by rw [wrap_i64 (by omega)]; omega] at hS
   have hk : k ≤ n := by omega
   have hP := hI.pushFull hd h0 hfull
   rw [← hge, ← hke] at hP
   have hI0 : (0 : Int) ≤ (((g + k) % n : Nat) : Int) := Int.natCast_nonneg _
   have hI1 : (((g + k) % n : Nat) : Int) < c.length := by rw [hI.len]; exact Int.ofNat_lt.2 (Nat.mod_lt _ (Nat.pos_of_ne_zero h0))
   have hI2 : (((g + k) % n : Nat) : Int).toNat < c.length := by omega
   refine then_n (wp_seq ?_)
   refine region_any (by kernel_rfl) hS (by kernel_rfl) (qM rfl rfl (qf (o_nilCheck 2 .is (by rfl)) r1 r1 (qf (oF 1 2 .adr) r1 r1 (qf (oL false 1 2 .adr) r1 r1 (qM rfl rfl (qM rfl rfl (qf (o_nilCheck 2 .is (by rfl)) r1 r1 (qf (oF 3 2 .adr) r1 r1 (qf (oL false 1 2 .adr) r1 r1 (qf (o_callR (cells := [.pv _, .pv _, .pv _, .pv _, .pv _]) 2 (place_c n g k _ _ _ h0 hroom hg hk) (fun _ _ _ _ _ h => h) rfl Tryz.func47 rfl (by kernel_rfl) (ArgsLent.two .is .t)) r2 r1 (qf (oL true 4 101 .is) r1 r1 (qf (oP (ucopied_c d hd) Tryz.func48 (Args.one (.pagg .t))) r1 qz (qf (o_indexAddr_row (sz := 4) 3 (.mk Tryz.underlying63 (by kernel_rfl)) .is .t hI0 hI1 (by rfl)) r2 r1 (qf (o_store_row (sz := 4) 3 .t (by intro x; rfl) hI2 .t (by kernel_rfl)) r2 r1 qZ)))))))))))))) (by kernel_rfl) (by rw [hB]; kernel_rfl) ?_
   clear hS; intro a w F hS
   obtain ⟨F, hS⟩ := hS.nm [0] [3, 2, 0] rfl rfl
   try dsimp only [List.map, stCells, xL, xM, Nat.reduceAdd, xD, xE, xT, xU, xC, xN, zCF, ldSF] at hS
   rw [Int.toNat_natCast] at hS
   refine then_n ?_
   refine region_z hS (qM rfl rfl (qM rfl rfl (qM rfl rfl (qf (o_nilCheck 2 .is (by rfl)) r1 r1 (qf (oF 3 2 .adr) r1 r1 (qf (oL false 1 2 .adr) r1 r1 (qf (o_add .t qi) r1 qz (qf (o_nilCheck 2 .is (by rfl)) r1 r1 (qf (oF 3 2 .adr) r1 r1 (qf (o_store1 2 .adr .t one_int (by kernel_rfl) (by kernel_rfl)) r2 r1 (qf (o_nilCheck 2 .is (by rfl)) r1 r1 (qf (oF 4 2 .adr) r1 r1 (qf (o_store1 2 .adr qi one_int (by kernel_rfl) (by kernel_rfl)) r1 r1 qZ))))))))))))) hB [] [3, 2, 0] rfl rfl ?_
   clear hS; intro a w F hS
   rw [wrap_succ (by omega)] at hS
   have hS := hS.fresh 1 rfl
   obtain ⟨F, hS⟩ := hS.push 1 3 rfl rfl rfl (by kernel_rfl)
   obtain ⟨F, hS⟩ := hS.push 1 2 rfl rfl rfl (by kernel_rfl)
   have hS := hS.turn 1 rfl (r' := RS.hp (logH (.pointer (some ⟨b, 0, none⟩)) n (pushD n D d) [])) (fun _ _ _ _ h => ⟨_, _, _, hP.1, (by rw [hP.2]; exact h)⟩)
   refine ret_G1 hG hS rfl .nil Tells.none rfl
  have hpart : D.length < n := by simp at hc1; omega
  obtain ⟨g, hge⟩ : ∃ g, g = f := ⟨_, rfl⟩
  subst hge
  obtain ⟨k, hke⟩ : ∃ k, k = D.length := ⟨_, rfl⟩
  rw [← hke] at hS
  have hk : k ≤ n := by omega
  have hg := hff
  have hP := hI.push hd hpart
  rw [← hke] at hP
  have hI0 : (0 : Int) ≤ (((g + k) % n : Nat) : Int) := Int.natCast_nonneg _
  have hI1 : (((g + k) % n : Nat) : Int) < c.length := by rw [hI.len]; exact Int.ofNat_lt.2 (Nat.mod_lt _ (Nat.pos_of_ne_zero h0))
  have hI2 : (((g + k) % n : Nat) : Int).toNat < c.length := by omega
  refine wp_skip (then_n (wp_seq ?_))
  refine region_any (by kernel_rfl) hS (by kernel_rfl) (qM rfl rfl (qf (o_nilCheck 2 .is (by rfl)) r1 r1 (qf (oF 1 2 .adr) r1 r1 (qf (oL false 1 2 .adr) r1 r1 (qM rfl rfl (qM rfl rfl (qf (o_nilCheck 2 .is (by rfl)) r1 r1 (qf (oF 3 2 .adr) r1 r1 (qf (oL false 1 2 .adr) r1 r1 (qf (o_callR (cells := [.pv _, .pv _, .pv _, .pv _, .pv _]) 2 (place_c n g k _ _ _ h0 hroom hg hk) (fun _ _ _ _ _ h => h) rfl Tryz.func47 rfl (by kernel_rfl) (ArgsLent.two .is .t)) r2 r1 (qf (oL true 4 101 .is) r1 r1 (qf (oP (ucopied_c d hd) Tryz.func48 (Args.one (.pagg .t))) r1 qz (qf (o_indexAddr_row (sz := 4) 3 (.mk Tryz.underlying63 (by kernel_rfl)) .is .t hI0 hI1 (by rfl)) r2 r1 (qf (o_store_row (sz := 4) 3 .t (by intro x; rfl) hI2 .t (by kernel_rfl)) r2 r1 qZ)))))))))))))) (by kernel_rfl) (by rw [hB]; kernel_rfl) ?_
  clear hS; intro a w F hS
  obtain ⟨F, hS⟩ := hS.nm [0] [3, 2, 0] rfl rfl
  try dsimp only [List.map, stCells, xL, xM, Nat.reduceAdd, xD, xE, xT, xU, xC, xN, zCF, ldSF] at hS
  rw [Int.toNat_natCast] at hS
  refine then_n ?_
  refine region_z hS (qM rfl rfl (qM rfl rfl (qM rfl rfl (qf (o_nilCheck 2 .is (by rfl)) r1 r1 (qf (oF 3 2 .adr) r1 r1 (qf (oL false 1 2 .adr) r1 r1 (qf (o_add .t qi) r1 qz (qf (o_nilCheck 2 .is (by rfl)) r1 r1 (qf (oF 3 2 .adr) r1 r1 (qf (o_store1 2 .adr .t one_int (by kernel_rfl) (by kernel_rfl)) r2 r1 (qf (o_nilCheck 2 .is (by rfl)) r1 r1 (qf (oF 4 2 .adr) r1 r1 (qf (o_store1 2 .adr qi one_int (by kernel_rfl) (by kernel_rfl)) r1 r1 qZ))))))))))))) hB [] [3, 2, 0] rfl rfl ?_
  clear hS; intro a w F hS
  rw [wrap_succ (by omega)] at hS
  have hS := hS.fresh 1 rfl
  obtain ⟨F, hS⟩ := hS.push 1 3 rfl rfl rfl (by kernel_rfl)
  obtain ⟨F, hS⟩ := hS.push 1 2 rfl rfl rfl (by kernel_rfl)
  have hS := hS.turn 1 rfl (r' := RS.hp (logH (.pointer (some ⟨b, 0, none⟩)) n (pushD n D d) [])) (fun _ _ _ _ h => ⟨_, _, _, hP.1, (by rw [hP.2]; exact h)⟩)
  refine ret_G1 hG hS rfl .nil Tells.none rfl

theorem push_nil (d : DeltaD) : FnP Tryz.prog 12 [.is (.pointer none), .agg (rDelta d)] (.tup []) := by
  refine FnP.mk Tryz.func12 rfl Tryz.ntmps12 rfl ?_
  intro B a w F hB hfr hS
  refine wp_seq ?_
  refine region_q hS (qf (oX 101 (.conv .t .agg)) r1 qz qZ) hB ?_
  clear hS; intro a w F hS
  replace hS := hS.sub
  obtain ⟨F, hS⟩ := hS.nm [3, 0] [101, 0] rfl rfl
  try dsimp only [RS.sub, SF.sub, CF.sub, csub, Anc.sub, List.map, zCF] at hS
  generalize Act.tau a 3 = v3 at hS
  refine then_n (wp_seq (wp_seq ?_))
  refine region_z hS (qM rfl rfl (qf (o_nil_eql _ Tryz.underlying24 rfl .t) r1 qz (qM rfl rfl (qk rfl (fun h => (OpC.never (by simp at h))) r1 qz (qk rfl (fun h => (OpC.never (by simp at h))) r1 qz (qk rfl (fun h => (OpC.never (by simp at h))) r1 qz (qk rfl (fun h => (OpC.never (by simp at h))) r1 qz (qk rfl (fun h => (OpC.never (by simp at h))) r1 qz (qf (o_or2 .t .t) r2 qz qZ))))))))) hB [12, 3, 0] [101, 0] rfl rfl ?_
  clear hS; intro a w F hS
  refine then_n ?_
  refine cond_b hS rfl (fun hc0 => ?_) (fun hc0 => ?_)
  ·skip
   refine wp_ret (then_r ?_)
   refine ret_P hfr hS rfl .nil (Tells.none)
  simp at hc0

end Go.Proofs.YtcfgcpcakdknkaaGreat
namespace Go.Proofs.YtcfgcpcakdknkaaGreat
open Go Go.Gm
set_option linter.unusedVariables false
set_option linter.unusedSimpArgs false
set_option maxHeartbeats 4000000
set_option maxRecDepth 8000

theorem undo_c (b n : Nat) (D U : List DeltaD) : FnG Tryz.prog 15 1 [.is (.pointer (some ⟨b, 0, none⟩))] [logH (.pointer (some ⟨b, 0, none⟩)) n D U] (.tup [.agg (rDelta (undoX D)), .int .i64 (emptyE D)]) (fun _ => [logH (.pointer (some ⟨b, 0, none⟩)) n (undoL (D, U)).1 (undoL (D, U)).2]) := by
  refine FnG.mk Tryz.func15 rfl Tryz.ntmps15 rfl (by kernel_rfl) ?_
  intro B F0 a w F hB hG hS
  refine wp_seq ?_
  refine region_q hS (qf (oH [.slice none 0 0, .slice none 0 0, .slice none 0 0, .slice none 0 0] 101) trivial qz (qf (oN qi) trivial qz qZ)) hB ?_
  clear hS; intro a w F hS
  replace hS := hS.sub
  obtain ⟨F, hS⟩ := hS.nm [3, 2, 0] [101, 1, 0] rfl rfl
  try dsimp only [RS.sub, SF.sub, CF.sub, csub, Anc.sub, List.map, zCF] at hS
  generalize Act.tau a 2 = v2 at hS
  refine then_n (wp_seq (wp_seq ?_))
  refine region_z hS (qM rfl rfl (qf (o_callG1 1 (len_c b n D U) Tryz.func13 rfl (by kernel_rfl) (Args.one .t)) r1 r1 (qf (o_eql .t qi) r1 qz qZ))) hB [6, 3, 2, 0] [101, 1, 0] rfl rfl ?_
  clear hS; intro a w F hS
  refine then_n ?_
  refine cond_b hS rfl (fun hc0 => ?_) (fun hc0 => ?_)
  ·skip
   have hD0 : D.length = 0 := by rw [decide_eq_true_eq] at hc0; omega
   have hu : undoL (D, U) = (D, U) := if_pos hD0
   have hx : undoX D = noD := if_pos hD0
   have he : emptyE D = 15 := if_pos hD0
   refine wp_seq ?_
   refine region_z hS (qf (oB [] [.slice none 0 0, .slice none 0 0, .slice none 0 0, .slice none 0 0] [(0, 1), (1, 1), (2, 1), (3, 1)] .nil) trivial qz (qf (oA 4 101 .is .t) r2 r1 (qf (oN qi) trivial qz qZ))) hB [3, 2, 0] [101, 1, 0] rfl rfl ?_
   clear hS; intro a w F hS
   refine then_n (wp_ret (then_r ?_))
   have hS := hS.turn 1 rfl (r' := RS.hp (logH (.pointer (some ⟨b, 0, none⟩)) n (undoL (D, U)).1 (undoL (D, U)).2)) (fun _ _ _ _ h => by rw [hu]; exact h)
   refine ret_G1 hG hS rfl (.cell (n := 101) (ag := true) (sz := 4) rfl .is rfl (by kernel_rfl) (by kernel_rfl) (by kernel_rfl) (.tmp rfl .nil)) (.two (by rw [hx]; exact .aggLe rfl noD_le) (.int (by rw [he]))) rfl
  obtain ⟨rv, hS⟩ := hS.open_ex 1 rfl
  obtain ⟨c, hS⟩ := hS.open_ex 1 rfl
  obtain ⟨f, hS⟩ := hS.open_ex 1 rfl
  obtain ⟨hI, hS⟩ := hS.open_and 1 rfl
  obtain ⟨F, hS⟩ := hS.peel 1 2 rfl rfl
  obtain ⟨F, hS⟩ := hS.peel 1 3 rfl rfl
  have hroom := hI.room
  have hff := hI.first
  have hfit := hI.fits
  rw [List.length_append, List.length_reverse] at hfit
  have hD0 : D.length ≠ 0 := by rw [decide_eq_false_iff_not] at hc0; omega
  have h0 : n ≠ 0 := by omega
  have hx : undoX D = inv (Go.Gm.nth D (D.length - 1)) := if_neg hD0
  have he : emptyE D = 0 := if_neg hD0
  have hu : undoL (D, U) = (D.take (D.length - 1), U ++ [Go.Gm.nth D (D.length - 1)]) := if_neg hD0
  have hl1 : (undoL (D, U)).1.length = D.length - 1 := by rw [hu]; simp only [List.length_take]; omega
  have hl2 : (undoL (D, U)).2.length = U.length + 1 := by rw [hu]; simp
  obtain ⟨k, hk⟩ : ∃ k, k = (f + (D.length - 1)) % n := ⟨_, rfl⟩
  have hok : DOk (Go.Gm.nth c (((f + (D.length - 1)) % n : Nat) : Int).toNat) := by rw [Int.toNat_natCast, undo_at hI hD0, ← nth_apL (r := U.reverse) (by omega)]; exact hI.ok _ (by rw [List.length_append]; omega)
  have hI0 : (0 : Int) ≤ (((f + (D.length - 1)) % n : Nat) : Int) := Int.natCast_nonneg _
  have hI1 : (((f + (D.length - 1)) % n : Nat) : Int) < c.length := by rw [hI.len]; exact Int.ofNat_lt.2 (Nat.mod_lt _ (Nat.pos_of_ne_zero h0))
  have hI2 : (((f + (D.length - 1)) % n : Nat) : Int).toNat < c.length := by omega
  obtain ⟨F, hS⟩ := hS.nm [6, 3, 2, 0] [101, 3, 2, 0] rfl rfl
  refine wp_skip (then_n (wp_seq ?_))
  refine region_z hS (qM rfl rfl (qf (o_nilCheck 2 .is (by rfl)) r1 r1 (qf (oF 3 2 .adr) r1 r1 (qf (oL false 1 2 .adr) r1 r1 (qf (o_sub .t qi) r1 qz (qf (o_nilCheck 2 .is (by rfl)) r1 r1 (qf (oF 3 2 .adr) r1 r1 (qf (o_store1 2 .adr .t one_int (by kernel_rfl) (by kernel_rfl)) r2 r1 qZ)))))))) hB [3, 2, 0] [101, 3, 2, 0] rfl rfl ?_
  clear hS; intro a w F hS
  rw [show IntKind.wrap .i64 ((D.length : Int) - 1) = ((D.length - 1 : Nat) : Int) by rw [wrap_i64 (by omega)]; omega] at hS
  refine then_n (wp_seq ?_)
  refine region_z hS (qM rfl rfl (qf (o_nilCheck 2 .is (by rfl)) r1 r1 (qf (oF 4 2 .adr) r1 r1 (qf (oL false 1 2 .adr) r1 r1 (qf (o_add .t qi) r1 qz (qf (o_nilCheck 2 .is (by rfl)) r1 r1 (qf (oF 4 2 .adr) r1 r1 (qf (o_store1 2 .adr .t one_int (by kernel_rfl) (by kernel_rfl)) r2 r1 qZ)))))))) hB [3, 2, 0] [101, 3, 2, 0] rfl rfl ?_
  clear hS; intro a w F hS
  rw [wrap_succ (by omega)] at hS
  refine then_n (wp_seq ?_)
  refine region_any (by kernel_rfl) hS (by kernel_rfl) (qM rfl rfl (qf (o_nilCheck 2 .is (by rfl)) r1 r1 (qf (oF 1 2 .adr) r1 r1 (qf (oL false 1 2 .adr) r1 r1 (qM rfl rfl (qM rfl rfl (qf (o_nilCheck 2 .is (by rfl)) r1 r1 (qf (oF 3 2 .adr) r1 r1 (qf (oL false 1 2 .adr) r1 r1 (qf (o_callR (cells := [.pv _, .pv _, .pv _, .pv _, .pv _]) 2 (place_c n f (D.length - 1) _ _ _ h0 hroom hff (by omega)) (fun _ _ _ _ _ h => h) rfl Tryz.func47 rfl (by kernel_rfl) (ArgsLent.two .is .t)) r2 r1 (qf (o_indexAddr_row (sz := 4) 3 (.mk Tryz.underlying63 (by kernel_rfl)) .is .t hI0 hI1 (by rfl)) r2 r1 (qf (o_load_row0 (ag := true) (sz' := 4) (sz := 4) 3 .t (by intro x; rfl) hI2 (by kernel_rfl) (by kernel_rfl) (by kernel_rfl)) r1 r1 (qf (oP (invert_c _ hok) Tryz.func35 (Args.one (.pagg .t))) r1 qz (qf (oA 4 101 .is (.conv .t .agg)) r2 r1 (qf (oN qi) trivial qz qZ))))))))))))))) (by kernel_rfl) (by rw [hB]; kernel_rfl) ?_
  clear hS; intro a w F hS
  obtain ⟨F, hS⟩ := hS.nm [3, 2] [101, 3, 2, 0] rfl rfl
  try dsimp only [List.map, stCells, xL, xM, Nat.reduceAdd, xD, xE, xT, xU, xC, xN, zCF, ldSF] at hS
  rw [Int.toNat_natCast, undo_at hI hD0] at hS
  refine then_n (wp_ret ?_)
  have hS := hS.fresh 1 rfl
  obtain ⟨F, hS⟩ := hS.push 1 3 rfl rfl rfl (by kernel_rfl)
  obtain ⟨F, hS⟩ := hS.push 1 2 rfl rfl rfl (by kernel_rfl)
  have hS := hS.turn 1 rfl (r' := RS.hp (logH (.pointer (some ⟨b, 0, none⟩)) n (undoL (D, U)).1 (undoL (D, U)).2)) (fun _ _ _ _ h => ⟨_, _, _, (by rw [undo_seq]; exact hI), (by rw [hl1, hl2]; exact h)⟩)
  refine ret_G1 hG hS rfl (.cell (n := 101) (ag := true) (sz := 4) rfl .is rfl (by kernel_rfl) (by kernel_rfl) (by kernel_rfl) (.tmp rfl .nil)) (.two (by rw [hx]; exact .aggU rfl rfl) (.int (by rw [he]))) rfl

theorem redo_c (b n : Nat) (D U : List DeltaD) : FnG Tryz.prog 18 1 [.is (.pointer (some ⟨b, 0, none⟩))] [logH (.pointer (some ⟨b, 0, none⟩)) n D U] (.tup [.agg (rDelta (redoX U)), .int .i64 (emptyE U)]) (fun _ => [logH (.pointer (some ⟨b, 0, none⟩)) n (redoL (D, U)).1 (redoL (D, U)).2]) := by
  refine FnG.mk Tryz.func18 rfl Tryz.ntmps18 rfl (by kernel_rfl) ?_
  intro B F0 a w F hB hG hS
  refine wp_seq ?_
  refine region_q hS (qf (oH [.slice none 0 0, .slice none 0 0, .slice none 0 0, .slice none 0 0] 101) trivial qz (qf (oN qi) trivial qz qZ)) hB ?_
  clear hS; intro a w F hS
  replace hS := hS.sub
  obtain ⟨F, hS⟩ := hS.nm [3, 2, 0] [101, 1, 0] rfl rfl
  try dsimp only [RS.sub, SF.sub, CF.sub, csub, Anc.sub, List.map, zCF] at hS
  generalize Act.tau a 2 = v2 at hS
  refine then_n (wp_seq (wp_seq ?_))
  refine region_z hS (qM rfl rfl (qf (o_callG1 1 (ahead_c b n D U) Tryz.func19 rfl (by kernel_rfl) (Args.one .t)) r1 r1 (qf (o_eql .t qi) r1 qz qZ))) hB [7, 3, 2, 0] [101, 1, 0] rfl rfl ?_
  clear hS; intro a w F hS
  refine then_n ?_
  refine cond_b hS rfl (fun hc0 => ?_) (fun hc0 => ?_)
  ·skip
   have hU0 : U.length = 0 := by rw [decide_eq_true_eq] at hc0; omega
   have hu : redoL (D, U) = (D, U) := if_pos hU0
   have hx : redoX U = noD := if_pos hU0
   have he : emptyE U = 15 := if_pos hU0
   refine wp_seq ?_
   refine region_z hS (qf (oB [] [.slice none 0 0, .slice none 0 0, .slice none 0 0, .slice none 0 0] [(0, 1), (1, 1), (2, 1), (3, 1)] .nil) trivial qz (qf (oA 4 101 .is .t) r2 r1 (qf (oN qi) trivial qz qZ))) hB [3, 2, 0] [101, 1, 0] rfl rfl ?_
   clear hS; intro a w F hS
   refine then_n (wp_ret (then_r ?_))
   have hS := hS.turn 1 rfl (r' := RS.hp (logH (.pointer (some ⟨b, 0, none⟩)) n (redoL (D, U)).1 (redoL (D, U)).2)) (fun _ _ _ _ h => by rw [hu]; exact h)
   refine ret_G1 hG hS rfl (.cell (n := 101) (ag := true) (sz := 4) rfl .is rfl (by kernel_rfl) (by kernel_rfl) (by kernel_rfl) (.tmp rfl .nil)) (.two (by rw [hx]; exact .aggLe rfl noD_le) (.int (by rw [he]))) rfl
  obtain ⟨rv, hS⟩ := hS.open_ex 1 rfl
  obtain ⟨c, hS⟩ := hS.open_ex 1 rfl
  obtain ⟨f, hS⟩ := hS.open_ex 1 rfl
  obtain ⟨hI, hS⟩ := hS.open_and 1 rfl
  obtain ⟨F, hS⟩ := hS.peel 1 2 rfl rfl
  obtain ⟨F, hS⟩ := hS.peel 1 3 rfl rfl
  have hroom := hI.room
  have hff := hI.first
  have hfit := hI.fits
  rw [List.length_append, List.length_reverse] at hfit
  have hU0 : U.length ≠ 0 := by rw [decide_eq_false_iff_not] at hc0; omega
  have h0 : n ≠ 0 := by omega
  have hx : redoX U = Go.Gm.nth U (U.length - 1) := if_neg hU0
  have he : emptyE U = 0 := if_neg hU0
  have hu : redoL (D, U) = (D ++ [Go.Gm.nth U (U.length - 1)], U.take (U.length - 1)) := if_neg hU0
  have hl1 : (redoL (D, U)).1.length = D.length + 1 := by rw [hu]; simp
  have hl2 : (redoL (D, U)).2.length = U.length - 1 := by rw [hu]; simp only [List.length_take]; omega
  have hok : DOk (Go.Gm.nth c (((f + D.length) % n : Nat) : Int).toNat) := by rw [Int.toNat_natCast, hI.cell _ (by rw [List.length_append, List.length_reverse]; omega)]; exact hI.ok _ (by rw [List.length_append, List.length_reverse]; omega)
  have hI0 : (0 : Int) ≤ (((f + D.length) % n : Nat) : Int) := Int.natCast_nonneg _
  have hI1 : (((f + D.length) % n : Nat) : Int) < c.length := by rw [hI.len]; exact Int.ofNat_lt.2 (Nat.mod_lt _ (Nat.pos_of_ne_zero h0))
  have hI2 : (((f + D.length) % n : Nat) : Int).toNat < c.length := by omega
  obtain ⟨F, hS⟩ := hS.nm [7, 3, 2, 0] [101, 3, 2, 0] rfl rfl
  refine wp_skip (then_n (wp_seq ?_))
  refine region_any (by kernel_rfl) hS (by kernel_rfl) (qM rfl rfl (qf (o_nilCheck 2 .is (by rfl)) r1 r1 (qf (oF 1 2 .adr) r1 r1 (qf (oL false 1 2 .adr) r1 r1 (qM rfl rfl (qM rfl rfl (qf (o_nilCheck 2 .is (by rfl)) r1 r1 (qf (oF 3 2 .adr) r1 r1 (qf (oL false 1 2 .adr) r1 r1 (qf (o_callR (cells := [.pv _, .pv _, .pv _, .pv _, .pv _]) 2 (place_c n f D.length _ _ _ h0 hroom hff (by omega)) (fun _ _ _ _ _ h => h) rfl Tryz.func47 rfl (by kernel_rfl) (ArgsLent.two .is .t)) r2 r1 (qf (o_indexAddr_row (sz := 4) 3 (.mk Tryz.underlying63 (by kernel_rfl)) .is .t hI0 hI1 (by rfl)) r2 r1 (qf (o_load_row0 (ag := true) (sz' := 4) (sz := 4) 3 .t (by intro x; rfl) hI2 (by kernel_rfl) (by kernel_rfl) (by kernel_rfl)) r1 r1 (qf (oP (ucopied_c _ hok) Tryz.func48 (Args.one (.pagg .t))) r1 qz (qf (oH [.slice none 0 0, .slice none 0 0, .slice none 0 0, .slice none 0 0] 102) trivial qz (qf (oA 4 102 .same (.conv .t .agg)) r2 r1 qZ))))))))))))))) (by kernel_rfl) (by rw [hB]; kernel_rfl) ?_
  clear hS; intro a w F hS
  replace hS := hS.sub
  obtain ⟨F, hS⟩ := hS.nm [4, 3, 2, 0] [102, 101, 3, 2, 0] rfl rfl
  try dsimp only [RS.sub, SF.sub, CF.sub, csub, Anc.sub, List.map, stCells, xL, xM, Nat.reduceAdd, xD, xE, xT, xU, xC, xN, zCF, ldSF] at hS
  generalize Act.tau a 4 = v4 at hS
  rw [Int.toNat_natCast, redo_at hI hU0] at hS
  refine then_n (wp_seq ?_)
  refine region_z hS (qM rfl rfl (qf (o_nilCheck 2 .is (by rfl)) r1 r1 (qf (oF 3 2 .adr) r1 r1 (qf (oL false 1 2 .adr) r1 r1 (qf (o_add .t qi) r1 qz (qf (o_nilCheck 2 .is (by rfl)) r1 r1 (qf (oF 3 2 .adr) r1 r1 (qf (o_store1 2 .adr .t one_int (by kernel_rfl) (by kernel_rfl)) r2 r1 qZ)))))))) hB [4, 3, 2, 0] [102, 101, 3, 2, 0] rfl rfl ?_
  clear hS; intro a w F hS
  rw [wrap_succ (by omega)] at hS
  refine then_n (wp_seq ?_)
  refine region_z hS (qM rfl rfl (qf (o_nilCheck 2 .is (by rfl)) r1 r1 (qf (oF 4 2 .adr) r1 r1 (qf (oL false 1 2 .adr) r1 r1 (qf (o_sub .t qi) r1 qz (qf (o_nilCheck 2 .is (by rfl)) r1 r1 (qf (oF 4 2 .adr) r1 r1 (qf (o_store1 2 .adr .t one_int (by kernel_rfl) (by kernel_rfl)) r2 r1 qZ)))))))) hB [4, 3, 2] [102, 101, 3, 2, 0] rfl rfl ?_
  clear hS; intro a w F hS
  rw [show IntKind.wrap .i64 ((U.length : Int) - 1) = ((U.length - 1 : Nat) : Int) by rw [wrap_i64 (by omega)]; omega] at hS
  refine then_n (wp_seq ?_)
  refine region_z hS (qf (oL true 4 102 .is) r1 r1 (qf (oA 4 101 .is .t) r2 r1 (qf (oN qi) trivial qz qZ))) hB [3, 2] [101, 3, 2, 0] rfl rfl ?_
  clear hS; intro a w F hS
  refine then_n (wp_ret ?_)
  have hS := hS.fresh 1 rfl
  obtain ⟨F, hS⟩ := hS.push 1 3 rfl rfl rfl (by kernel_rfl)
  obtain ⟨F, hS⟩ := hS.push 1 2 rfl rfl rfl (by kernel_rfl)
  have hS := hS.turn 1 rfl (r' := RS.hp (logH (.pointer (some ⟨b, 0, none⟩)) n (redoL (D, U)).1 (redoL (D, U)).2)) (fun _ _ _ _ h => ⟨_, _, _, (by rw [redo_seq]; exact hI), (by rw [hl1, hl2]; exact h)⟩)
  refine ret_G1 hG hS rfl (.cell (n := 101) (ag := true) (sz := 4) rfl .is rfl (by kernel_rfl) (by kernel_rfl) (by kernel_rfl) (.tmp rfl .nil)) (.two (by rw [hx]; exact .aggU rfl rfl) (.int (by rw [he]))) rfl

theorem undo_nil  : FnP Tryz.prog 15 [.is (.pointer none)] (.tup [.agg (rDelta noD), .int .i64 15]) := by
  refine FnP.mk Tryz.func15 rfl Tryz.ntmps15 rfl ?_
  intro B a w F hB hfr hS
  refine wp_seq ?_
  refine region_q hS (qf (oH [.slice none 0 0, .slice none 0 0, .slice none 0 0, .slice none 0 0] 101) trivial qz (qf (oN qi) trivial qz qZ)) hB ?_
  clear hS; intro a w F hS
  replace hS := hS.sub
  obtain ⟨F, hS⟩ := hS.nm [3, 2, 0] [101, 0] rfl rfl
  try dsimp only [RS.sub, SF.sub, CF.sub, csub, Anc.sub, List.map, zCF] at hS
  generalize Act.tau a 2 = v2 at hS
  refine then_n (wp_seq (wp_seq ?_))
  refine region_z hS (qM rfl rfl (qf (oP (len_nil) Tryz.func13 (Args.one .t)) r1 qz (qf (o_eql .t qi) r1 qz qZ))) hB [6, 3, 2, 0] [101, 0] rfl rfl ?_
  clear hS; intro a w F hS
  refine then_n ?_
  refine cond_b hS rfl (fun hc0 => ?_) (fun hc0 => ?_)
  ·skip
   refine wp_seq ?_
   refine region_z hS (qf (oB [] [.slice none 0 0, .slice none 0 0, .slice none 0 0, .slice none 0 0] [(0, 1), (1, 1), (2, 1), (3, 1)] .nil) trivial qz (qf (oA 4 101 .is .t) r2 r1 (qf (oN qi) trivial qz qZ))) hB [3, 2, 0] [101, 0] rfl rfl ?_
   clear hS; intro a w F hS
   refine then_n (wp_ret (then_r ?_))
   refine ret_P hfr hS rfl (.cell (n := 101) (ag := true) (sz := 4) rfl .is rfl (by kernel_rfl) (by kernel_rfl) (by kernel_rfl) (.tmp rfl .nil)) (.two (.aggLe rfl noD_le) .refl)
  simp at hc0

def refRoomU (m : Int) : Nat := (if m < 0 then 0 else if m > 4096 then 4096 else m).toNat
theorem refRoomU_le (m : Int) : refRoomU m ≤ 4096 := by unfold refRoomU; split; (· omega); split <;> omega
theorem refRoomU_eq (m : Int) : (if 4096 < (if m < 0 then 0 else m) then 4096 else if m < 0 then 0 else m) = ((refRoomU m : Nat) : Int) := by unfold refRoomU; split <;> split <;> (try split) <;> omega

theorem unew_c (m : Int) : FnG Tryz.prog 8 1 [.int .i64 m] [.star []] (PV.ptr) (fun v => [logH v (refRoomU m) [] []]) := by
  refine FnG.mk Tryz.func8 rfl Tryz.ntmps8 rfl (by kernel_rfl) ?_
  intro B F0 a w F hB hG hS
  have hr := refRoomU_eq m
  refine wp_seq ?_
  refine region_z hS (qf (oN (.c rfl)) trivial qz qZ) hB [2, 0] [1, 0] rfl rfl ?_
  clear hS; intro a w F hS
  refine then_n (wp_seq ?_)
  refine region_z hS (qM rfl rfl (qf (o_max .t qi) r1 qz (qf (o_min .t qi) r1 qz (qN rfl rfl qZ)))) hB [3, 2] [1, 0] rfl rfl ?_
  clear hS; intro a w F hS
  rw [hr] at hS
  refine then_n (wp_seq ?_)
  refine region_q hS (qM rfl rfl (qM rfl rfl (qf (o_makeSlice (R := rDelta) (v := noD) (c := ((refRoomU m : Nat) : Int)) (sz := 4) (bs := 96) (zs := [.slice none 0 0, .slice none 0 0, .slice none 0 0, .slice none 0 0]) 101 Tryz.underlying63 (by kernel_rfl) (by kernel_rfl) (by kernel_rfl) noD_zero .t .t (Int.natCast_nonneg _) (by have := refRoomU_le m; omega) (by have := refRoomU_le m; omega)) r2 qz (qf (oB [(0, .tmp 7), (1, .tmp 9)] [.int .i64 0, .slice none 0 0, .int .i64 0, .int .i64 0, .int .i64 0] [(0, 1), (1, 1), (2, 1), (3, 1), (4, 1)] (.one rfl .t one_int (by kernel_rfl) (.same rfl (by kernel_rfl) .nil))) r2 qz (qf (oX 102 .t) r1 qz (qN rfl rfl qZ)))))) hB ?_
  clear hS; intro a w F hS
  replace hS := hS.sub
  obtain ⟨F, hS⟩ := hS.nm [2] [102, 101, 1, 0] rfl rfl
  try dsimp only [RS.sub, SF.sub, CF.sub, csub, Anc.sub, List.map, stCells, xL, xM, Nat.reduceAdd, xD, xE, xT, xU, xC, xN, zCF] at hS
  generalize Act.tau a 11 = v11 at hS
  generalize Act.tau a 9 = v9 at hS
  rw [Int.toNat_natCast] at hS
  refine then_n (wp_ret ?_)
  obtain ⟨b, rfl⟩ := hS.shape 102 rfl
  obtain ⟨F, hS⟩ := hS.push 1 101 rfl rfl rfl (by kernel_rfl)
  obtain ⟨F, hS⟩ := hS.push 1 102 rfl rfl rfl (by kernel_rfl)
  have hS := hS.turn 1 rfl (r' := RS.hp (logH (.pointer (some ⟨b, 0, none⟩)) (refRoomU m) [] [])) (fun _ _ _ _ h => ⟨_, _, _, LogOk.mk0 (refRoomU_le m) noD, h⟩)
  refine ret_N1 (h' := fun v => logH v (refRoomU m) [] []) hG hS rfl (.tmp rfl .nil) (.one .ptr) rfl

end Go.Proofs.YtcfgcpcakdknkaaGreat
namespace Go.Proofs.YtcfgcpcakdknkaaGreat
open Go Go.Gm
set_option linter.unusedVariables false
set_option linter.unusedSimpArgs false
set_option maxHeartbeats 4000000
set_option maxRecDepth 8000

theorem refRoomU_c (m : Int) : FnP Tryz.prog 14 [.int .i64 m] (.int .i64 ((refRoomU m : Nat) : Int)) := by
  refine FnP.mk Tryz.func14 rfl Tryz.ntmps14 rfl ?_
  intro B a w F hB hfr hS
  refine wp_seq ?_
  refine region_z hS (qf (oN qi) trivial qz qZ) hB [2, 0] [0] rfl rfl ?_
  clear hS; intro a w F hS
  refine then_n (wp_seq (wp_seq ?_))
  refine region_z hS (qM rfl rfl (qf (o_lss .t qi) r1 qz qZ)) hB [4, 2, 0] [0] rfl rfl ?_
  clear hS; intro a w F hS
  refine then_n ?_
  refine cond_b hS rfl (fun hc0 => ?_) (fun hc0 => ?_)
  ·skip
   refine wp_seq ?_
   refine region_z hS (qf (oN qi) trivial qz qZ) hB [2, 0] [0] rfl rfl ?_
   clear hS; intro a w F hS
   refine then_n (wp_ret (then_r ?_))
   refine ret_P hfr hS rfl (.tmp rfl .nil) (.one (.int (by unfold refRoomU; simp only [decide_eq_true_eq, decide_eq_false_iff_not] at *; omega)))
  refine wp_skip (then_n (wp_seq (wp_seq ?_)))
  refine region_z hS (qM rfl rfl (qf (o_gtr .t qi) r1 qz qZ)) hB [6, 2, 0] [0] rfl rfl ?_
  clear hS; intro a w F hS
  refine then_n ?_
  refine cond_b hS rfl (fun hc1 => ?_) (fun hc1 => ?_)
  ·skip
   refine wp_seq ?_
   refine region_z hS (qf (oN qi) trivial qz qZ) hB [2, 0] [0] rfl rfl ?_
   clear hS; intro a w F hS
   refine then_n (wp_ret (then_r ?_))
   refine ret_P hfr hS rfl (.tmp rfl .nil) (.one (.int (by unfold refRoomU; simp only [decide_eq_true_eq, decide_eq_false_iff_not] at *; omega)))
  refine wp_skip (then_n (wp_seq ?_))
  refine region_z hS (qM rfl rfl (qN rfl rfl qZ)) hB [2] [0] rfl rfl ?_
  clear hS; intro a w F hS
  refine then_n (wp_ret ?_)
  refine ret_P hfr hS rfl (.tmp rfl .nil) (.one (.int (by unfold refRoomU; simp only [decide_eq_true_eq, decide_eq_false_iff_not] at *; omega)))

end Go.Proofs.YtcfgcpcakdknkaaGreat
namespace Go.Proofs.YtcfgcpcakdknkaaGreat
open Go Go.Gm
set_option linter.unusedVariables false
set_option linter.unusedSimpArgs false
set_option maxHeartbeats 4000000
set_option maxRecDepth 8000

theorem logH_ptr {v : Value} {n : Nat} {D U : List DeltaD} {w : World} {f y : Ys} (h : (logH v n D U).p w f y) : ∃ b, v = .pointer (some ⟨b, 0, none⟩) := by
  obtain ⟨_, _, _, _, h⟩ := h
  exact HP.star_pt h
def dN (i : Int) : DeltaD := ⟨[], [⟨i, false, []⟩], [], []⟩
theorem dN_ok (i : Int) : DOk (dN i) := ⟨⟨by simp [dN], by simp [dN]⟩, ⟨by simp [dN], by simp [dN]⟩, ⟨by simp [dN], by simp [dN]⟩, ⟨by simp [dN], by simp [dN]⟩⟩
theorem dN_le (i : Int) : PVsLe [.is (.slice none 0 0), .arr 1 [.int .i64 i, .bool false, .is (.slice none 0 0)], .is (.slice none 0 0), .is (.slice none 0 0)] [.sl rTx (dN i).was, .sl rTx (dN i).now, .sl rOrd (dN i).old, .sl rOrd (dN i).new] :=
  ⟨.nilSl, PVLe.arrSl (R := rTx) (l' := [(⟨i, false, []⟩ : TxD)]) rfl ⟨.refl, .refl, .nilSl, trivial⟩, .nilSl, .nilSl, trivial⟩

theorem livesU_c  : FnP Tryz.prog 7 [] (.bool true) := by
  refine FnP.mk Tryz.func7 rfl Tryz.ntmps7 rfl ?_
  intro B a w F hB hfr hS
  refine wp_seq ?_
  refine region_z hS (qf (oN .cb) trivial qz qZ) hB [0] [0] rfl rfl ?_
  clear hS; intro a w F hS
  refine then_n (wp_seq ?_)
  replace hS := hS.fresh 101 rfl
  replace hS := hS.fresh 102 rfl
  refine region_q hS (qf (o_callN 101 (unew_c 2) Tryz.func8 rfl (by kernel_rfl) (Args.one qi) PV.ptr_one) qz r1 (qf (o_callN 102 (unew_c (-1)) Tryz.func8 rfl (by kernel_rfl) (Args.one qi) PV.ptr_one) qz r1 (qN rfl rfl (qN rfl rfl qZ)))) hB ?_
  clear hS; intro a w F hS
  replace hS := hS.sub
  obtain ⟨F, hS⟩ := hS.nm [2, 1, 0] [102, 101, 0] rfl rfl
  try dsimp only [RS.sub, SF.sub, CF.sub, csub, Anc.sub, List.map] at hS
  generalize Act.tau a 23 = v23 at hS
  generalize Act.tau a 24 = v24 at hS
  obtain ⟨_, _, _, ho⟩ := hS.obGet 101 rfl
  obtain ⟨b1, rfl⟩ := logH_ptr ho
  clear ho
  replace hS := hS.turn 101 rfl (r' := RS.hp (logH (.pointer (some ⟨b1, 0, none⟩)) 2 [] [])) (fun _ _ _ _ h => h)
  obtain ⟨F, hS⟩ := hS.nm [2, 1, 0] [102, 101, 0] rfl rfl
  obtain ⟨_, _, _, ho⟩ := hS.obGet 102 rfl
  obtain ⟨b2, rfl⟩ := logH_ptr ho
  clear ho
  replace hS := hS.turn 102 rfl (r' := RS.hp (logH (.pointer (some ⟨b2, 0, none⟩)) 0 [] [])) (fun _ _ _ _ h => h)
  obtain ⟨F, hS⟩ := hS.nm [2, 1, 0] [102, 101, 0] rfl rfl
  refine then_n (wp_seq (wp_seq ?_))
  refine region_z hS (qM rfl rfl (qf (o_nil_eql _ Tryz.underlying24 rfl .t) r1 qz (qM rfl rfl (qm rfl rfl rfl rfl (qk rfl (fun h => o_nil_eql _ Tryz.underlying24 rfl (.w h)) r2 qz (qf (o_or2 .t .t) r2 qz qZ)))))) hB [30, 2, 1, 0] [102, 101, 0] rfl rfl ?_
  clear hS; intro a w F hS
  refine then_n ?_
  refine cond_b hS rfl (fun hc0 => ?_) (fun hc0 => ?_)
  ·skip
   simp at hc0
  refine wp_skip (then_n (wp_seq ?_))
  refine region_q hS (qf (oB [(0, _)] [.int .i64 0, .bool false, .slice none 0 0] [(0, 1), (1, 1), (2, 1)] (.one rfl qi one_int (by kernel_rfl) .nil)) trivial qz (qf (o_buildSliceE (sz := 3) (zs := [.int .i64 0, .bool false, .slice none 0 0]) (r := [(0, .tmp 31)]) (l := [_, _, _]) Tryz.underlying27 (by kernel_rfl) (by kernel_rfl) (by kernel_rfl) (by kernel_rfl) rfl rfl (.agg rfl .t (by kernel_rfl) (by kernel_rfl) .nil) rfl) r1 qz (qf (oB [(1, .tmp 32)] [.slice none 0 0, .slice none 0 0, .slice none 0 0, .slice none 0 0] [(0, 1), (1, 1), (2, 1), (3, 1)] (.one rfl .t one_arr (by kernel_rfl) .nil)) r1 qz (qf (oB [(0, _)] [.int .i64 0, .bool false, .slice none 0 0] [(0, 1), (1, 1), (2, 1)] (.one rfl qi one_int (by kernel_rfl) .nil)) trivial qz (qf (o_buildSliceE (sz := 3) (zs := [.int .i64 0, .bool false, .slice none 0 0]) (r := [(0, .tmp 34)]) (l := [_, _, _]) Tryz.underlying27 (by kernel_rfl) (by kernel_rfl) (by kernel_rfl) (by kernel_rfl) rfl rfl (.agg rfl .t (by kernel_rfl) (by kernel_rfl) .nil) rfl) r1 qz (qf (oB [(1, .tmp 35)] [.slice none 0 0, .slice none 0 0, .slice none 0 0, .slice none 0 0] [(0, 1), (1, 1), (2, 1), (3, 1)] (.one rfl .t one_arr (by kernel_rfl) .nil)) r1 qz (qf (oB [(0, _)] [.int .i64 0, .bool false, .slice none 0 0] [(0, 1), (1, 1), (2, 1)] (.one rfl qi one_int (by kernel_rfl) .nil)) trivial qz (qf (o_buildSliceE (sz := 3) (zs := [.int .i64 0, .bool false, .slice none 0 0]) (r := [(0, .tmp 37)]) (l := [_, _, _]) Tryz.underlying27 (by kernel_rfl) (by kernel_rfl) (by kernel_rfl) (by kernel_rfl) rfl rfl (.agg rfl .t (by kernel_rfl) (by kernel_rfl) .nil) rfl) r1 qz (qf (oB [(1, .tmp 38)] [.slice none 0 0, .slice none 0 0, .slice none 0 0, .slice none 0 0] [(0, 1), (1, 1), (2, 1), (3, 1)] (.one rfl .t one_arr (by kernel_rfl) .nil)) r1 qz (qf (oH [.slice none 0 0, .slice none 0 0, .slice none 0 0, .slice none 0 0] 103) trivial qz (qf (oH [.slice none 0 0, .slice none 0 0, .slice none 0 0, .slice none 0 0] 104) trivial qz (qf (oH [.slice none 0 0, .slice none 0 0, .slice none 0 0, .slice none 0 0] 105) trivial qz (qf (oA 4 103 .same .t) r2 r1 (qf (oA 4 104 .same .t) r2 r1 (qf (oA 4 105 .same .t) r2 r1 qZ))))))))))))))) hB ?_
  clear hS; intro a w F hS
  replace hS := hS.sub
  obtain ⟨F, hS⟩ := hS.nm [5, 4, 3, 2, 1, 0] [105, 104, 103, 102, 101, 0] rfl rfl
  try dsimp only [RS.sub, SF.sub, CF.sub, csub, Anc.sub, List.map, stCells, xL, xM, Nat.reduceAdd, xD, xE, xT, xU, xC, xN, zCF] at hS
  generalize Act.tau a 3 = v3 at hS
  generalize Act.tau a 4 = v4 at hS
  generalize Act.tau a 5 = v5 at hS
  replace hS := hS.turn 103 rfl (r' := RS.pt (.val v3) 44 [.pv (.sl rTx (dN 1).was), .pv (.sl rTx (dN 1).now), .pv (.sl rOrd (dN 1).old), .pv (.sl rOrd (dN 1).new)]) (ptLe rfl rfl (dN_le 1))
  obtain ⟨F, hS⟩ := hS.nm [5, 4, 3, 2, 1, 0] [105, 104, 103, 102, 101, 0] rfl rfl
  replace hS := hS.turn 104 rfl (r' := RS.pt (.val v4) 44 [.pv (.sl rTx (dN 2).was), .pv (.sl rTx (dN 2).now), .pv (.sl rOrd (dN 2).old), .pv (.sl rOrd (dN 2).new)]) (ptLe rfl rfl (dN_le 2))
  obtain ⟨F, hS⟩ := hS.nm [5, 4, 3, 2, 1, 0] [105, 104, 103, 102, 101, 0] rfl rfl
  replace hS := hS.turn 105 rfl (r' := RS.pt (.val v5) 44 [.pv (.sl rTx (dN 3).was), .pv (.sl rTx (dN 3).now), .pv (.sl rOrd (dN 3).old), .pv (.sl rOrd (dN 3).new)]) (ptLe rfl rfl (dN_le 3))
  obtain ⟨F, hS⟩ := hS.nm [5, 4, 3, 2, 1, 0] [105, 104, 103, 102, 101, 0] rfl rfl
  refine then_n (wp_seq ?_)
  refine region_z hS (qM rfl rfl (qf (oL true 4 103 .is) r1 r1 (qf (o_callG1 101 (push_c b1 2 [] [] (dN 1) (dN_ok 1)) Tryz.func12 rfl (by kernel_rfl) (Args.two .t (.pagg .t))) r2 r1 qZ))) hB [5, 4, 3, 2, 1, 0] [105, 104, 103, 102, 101, 0] rfl rfl ?_
  clear hS; intro a w F hS
  rw [show pushD 2 [] (dN 1) = [dN 1] from rfl] at hS
  refine then_n (wp_seq ?_)
  refine region_z hS (qM rfl rfl (qf (oL true 4 104 .is) r1 r1 (qf (o_callG1 101 (push_c b1 2 [dN 1] [] (dN 2) (dN_ok 2)) Tryz.func12 rfl (by kernel_rfl) (Args.two .t (.pagg .t))) r2 r1 qZ))) hB [5, 4, 3, 2, 1, 0] [105, 104, 103, 102, 101, 0] rfl rfl ?_
  clear hS; intro a w F hS
  rw [show pushD 2 [dN 1] (dN 2) = [dN 1, dN 2] from rfl] at hS
  refine then_n (wp_seq ?_)
  refine region_z hS (qM rfl rfl (qf (oL true 4 105 .is) r1 r1 (qf (o_callG1 101 (push_c b1 2 [dN 1, dN 2] [] (dN 3) (dN_ok 3)) Tryz.func12 rfl (by kernel_rfl) (Args.two .t (.pagg .t))) r2 r1 qZ))) hB [5, 4, 3, 2, 1, 0] [105, 104, 103, 102, 101, 0] rfl rfl ?_
  clear hS; intro a w F hS
  rw [show pushD 2 [dN 1, dN 2] (dN 3) = [dN 2, dN 3] from rfl] at hS
  refine then_n (wp_seq ?_)
  refine region_z hS (qM rfl rfl (qf (o_callG1 101 (len_c b1 2 [dN 2, dN 3] []) Tryz.func13 rfl (by kernel_rfl) (Args.one .t)) r1 r1 (qN rfl rfl qZ))) hB [6, 5, 4, 3, 2, 1, 0] [105, 104, 103, 102, 101, 0] rfl rfl ?_
  clear hS; intro a w F hS
  refine then_n (wp_seq ?_)
  refine region_q hS (qM rfl rfl (qf (o_callG1 101 (undo_c b1 2 [dN 2, dN 3] []) Tryz.func15 rfl (by kernel_rfl) (Args.one .t)) r1 r1 (qM rfl rfl (qf (o_extract .t rfl) r1 qz (qf (o_extract .t rfl) r1 qz (qf (oH [.slice none 0 0, .slice none 0 0, .slice none 0 0, .slice none 0 0] 106) trivial qz (qf (oA 4 106 .same (.conv .t .agg)) r2 r1 (qN rfl rfl qZ)))))))) hB ?_
  clear hS; intro a w F hS
  replace hS := hS.sub
  obtain ⟨F, hS⟩ := hS.nm [8, 7, 6, 5, 4, 3, 2, 1, 0] [106, 105, 104, 103, 102, 101, 0] rfl rfl
  try dsimp only [RS.sub, SF.sub, CF.sub, csub, Anc.sub, List.map, stCells, xL, xM, Nat.reduceAdd, xD, xE, xT, xU, xC, xN, zCF] at hS
  generalize Act.tau a 7 = v7 at hS
  rw [show undoL ([dN 2, dN 3], []) = ([dN 2], [dN 3]) from rfl] at hS
  rw [show undoX [dN 2, dN 3] = inv (dN 3) from rfl] at hS
  refine then_n (wp_seq ?_)
  refine region_q hS (qM rfl rfl (qf (o_callG1 101 (undo_c b1 2 [dN 2] [dN 3]) Tryz.func15 rfl (by kernel_rfl) (Args.one .t)) r1 r1 (qM rfl rfl (qf (o_extract .t rfl) r1 qz (qf (o_extract .t rfl) r1 qz (qf (oH [.slice none 0 0, .slice none 0 0, .slice none 0 0, .slice none 0 0] 107) trivial qz (qf (oA 4 107 .same (.conv .t .agg)) r2 r1 (qN rfl rfl qZ)))))))) hB ?_
  clear hS; intro a w F hS
  replace hS := hS.sub
  obtain ⟨F, hS⟩ := hS.nm [10, 9, 8, 7, 6, 5, 4, 3, 2, 1, 0] [107, 106, 105, 104, 103, 102, 101, 0] rfl rfl
  try dsimp only [RS.sub, SF.sub, CF.sub, csub, Anc.sub, List.map, stCells, xL, xM, Nat.reduceAdd, xD, xE, xT, xU, xC, xN, zCF] at hS
  generalize Act.tau a 9 = v9 at hS
  rw [show undoL ([dN 2], [dN 3]) = ([], [dN 3, dN 2]) from rfl] at hS
  rw [show undoX [dN 2] = inv (dN 2) from rfl] at hS
  refine then_n (wp_seq ?_)
  refine region_q hS (qM rfl rfl (qf (o_callG1 101 (undo_c b1 2 [] [dN 3, dN 2]) Tryz.func15 rfl (by kernel_rfl) (Args.one .t)) r1 r1 (qM rfl rfl (qf (o_extract .t rfl) r1 qz (qf (o_extract .t rfl) r1 qz (qf (oH [.slice none 0 0, .slice none 0 0, .slice none 0 0, .slice none 0 0] 108) trivial qz (qf (oA 4 108 .same (.conv .t .agg)) r2 r1 (qN rfl rfl qZ)))))))) hB ?_
  clear hS; intro a w F hS
  replace hS := hS.sub
  obtain ⟨F, hS⟩ := hS.nm [12, 10, 9, 8, 7, 6, 5, 4, 3, 2, 1, 0] [107, 106, 105, 104, 103, 102, 101, 0] rfl rfl
  try dsimp only [RS.sub, SF.sub, CF.sub, csub, Anc.sub, List.map, stCells, xL, xM, Nat.reduceAdd, xD, xE, xT, xU, xC, xN, zCF] at hS
  generalize Act.tau a 11 = v11 at hS
  rw [show undoL ([], [dN 3, dN 2]) = ([], [dN 3, dN 2]) from rfl] at hS
  refine then_n (wp_seq ?_)
  refine region_q hS (qM rfl rfl (qf (o_callG1 101 (redo_c b1 2 [] [dN 3, dN 2]) Tryz.func18 rfl (by kernel_rfl) (Args.one .t)) r1 r1 (qM rfl rfl (qf (o_extract .t rfl) r1 qz (qf (o_extract .t rfl) r1 qz (qf (oH [.slice none 0 0, .slice none 0 0, .slice none 0 0, .slice none 0 0] 109) trivial qz (qf (oA 4 109 .same (.conv .t .agg)) r2 r1 (qN rfl rfl qZ)))))))) hB ?_
  clear hS; intro a w F hS
  replace hS := hS.sub
  obtain ⟨F, hS⟩ := hS.nm [14, 13, 12, 10, 9, 8, 7, 6, 5, 4, 3, 2, 1, 0] [109, 107, 106, 105, 104, 103, 102, 101, 0] rfl rfl
  try dsimp only [RS.sub, SF.sub, CF.sub, csub, Anc.sub, List.map, stCells, xL, xM, Nat.reduceAdd, xD, xE, xT, xU, xC, xN, zCF] at hS
  generalize Act.tau a 13 = v13 at hS
  rw [show redoL ([], [dN 3, dN 2]) = ([dN 2], [dN 3]) from rfl] at hS
  rw [show redoX [dN 3, dN 2] = dN 2 from rfl] at hS
  refine then_n (wp_seq ?_)
  refine region_z hS (qM rfl rfl (qf (o_callG1 101 (ahead_c b1 2 [dN 2] [dN 3]) Tryz.func19 rfl (by kernel_rfl) (Args.one .t)) r1 r1 (qN rfl rfl qZ))) hB [15, 14, 13, 12, 10, 9, 8, 7, 6, 5, 4, 3, 2, 1, 0] [109, 107, 106, 105, 104, 103, 102, 101, 0] rfl rfl ?_
  clear hS; intro a w F hS
  refine then_n (wp_seq ?_)
  refine region_z hS (qM rfl rfl (qf (oL true 4 103 .is) r1 r1 (qf (o_callG1 101 (push_c b1 2 [dN 2] [dN 3] (dN 1) (dN_ok 1)) Tryz.func12 rfl (by kernel_rfl) (Args.two .t (.pagg .t))) r2 r1 qZ))) hB [15, 14, 13, 12, 10, 9, 8, 7, 6, 5, 4, 3, 2, 1, 0] [109, 107, 106, 105, 104, 103, 102, 101, 0] rfl rfl ?_
  clear hS; intro a w F hS
  rw [show pushD 2 [dN 2] (dN 1) = [dN 2, dN 1] from rfl] at hS
  refine then_n (wp_seq ?_)
  refine region_q hS (qM rfl rfl (qf (o_callG1 101 (redo_c b1 2 [dN 2, dN 1] []) Tryz.func18 rfl (by kernel_rfl) (Args.one .t)) r1 r1 (qM rfl rfl (qf (o_extract .t rfl) r1 qz (qf (o_extract .t rfl) r1 qz (qf (oH [.slice none 0 0, .slice none 0 0, .slice none 0 0, .slice none 0 0] 110) trivial qz (qf (oA 4 110 .same (.conv .t .agg)) r2 r1 (qN rfl rfl qZ)))))))) hB ?_
  clear hS; intro a w F hS
  replace hS := hS.sub
  obtain ⟨F, hS⟩ := hS.nm [17, 15, 14, 13, 12, 10, 9, 8, 7, 6, 5, 4, 3, 2, 1, 0] [109, 107, 106, 105, 104, 103, 102, 101, 0] rfl rfl
  try dsimp only [RS.sub, SF.sub, CF.sub, csub, Anc.sub, List.map, stCells, xL, xM, Nat.reduceAdd, xD, xE, xT, xU, xC, xN, zCF] at hS
  generalize Act.tau a 16 = v16 at hS
  rw [show redoL ([dN 2, dN 1], []) = ([dN 2, dN 1], []) from rfl] at hS
  refine then_n (wp_seq ?_)
  refine region_z hS (qM rfl rfl (qf (oL true 4 103 .is) r1 r1 (qf (o_callG1 102 (push_c b2 0 [] [] (dN 1) (dN_ok 1)) Tryz.func12 rfl (by kernel_rfl) (Args.two .t (.pagg .t))) r2 r1 qZ))) hB [17, 15, 14, 13, 12, 10, 9, 8, 7, 6, 5, 4, 3, 2, 1, 0] [109, 107, 106, 105, 104, 103, 102, 101, 0] rfl rfl ?_
  clear hS; intro a w F hS
  rw [show pushD 0 [] (dN 1) = [] from rfl] at hS
  refine then_n (wp_seq ?_)
  refine region_q hS (qM rfl rfl (qf (o_callG1 102 (undo_c b2 0 [] []) Tryz.func15 rfl (by kernel_rfl) (Args.one .t)) r1 r1 (qM rfl rfl (qf (o_extract .t rfl) r1 qz (qf (o_extract .t rfl) r1 qz (qf (oH [.slice none 0 0, .slice none 0 0, .slice none 0 0, .slice none 0 0] 111) trivial qz (qf (oA 4 111 .same (.conv .t .agg)) r2 r1 (qN rfl rfl qZ)))))))) hB ?_
  clear hS; intro a w F hS
  replace hS := hS.sub
  obtain ⟨F, hS⟩ := hS.nm [19, 17, 15, 14, 13, 12, 10, 9, 8, 7, 6, 5, 4, 3, 1, 0] [109, 107, 106, 105, 104, 103, 102, 101, 0] rfl rfl
  try dsimp only [RS.sub, SF.sub, CF.sub, csub, Anc.sub, List.map, stCells, xL, xM, Nat.reduceAdd, xD, xE, xT, xU, xC, xN, zCF] at hS
  generalize Act.tau a 18 = v18 at hS
  rw [show undoL ([], []) = ([], []) from rfl] at hS
  refine then_n (wp_seq ?_)
  refine region_z hS (qf (oN (.c rfl)) trivial qz qZ) hB [20, 19, 17, 15, 14, 13, 12, 10, 9, 8, 7, 6, 5, 4, 3, 1, 0] [109, 107, 106, 105, 104, 103, 102, 101, 0] rfl rfl ?_
  clear hS; intro a w F hS
  refine then_n (wp_seq ?_)
  refine region_z hS (qM rfl rfl (qf (oL true 4 103 .is) r1 r1 (qf (oP (push_nil (dN 1)) Tryz.func12 (Args.two .t (.pagg .t))) r2 qz qZ))) hB [20, 19, 17, 15, 14, 13, 12, 10, 9, 8, 7, 6, 5, 4, 1, 0] [109, 107, 106, 105, 104, 102, 101, 0] rfl rfl ?_
  clear hS; intro a w F hS
  refine then_n (wp_seq ?_)
  refine region_q hS (qM rfl rfl (qf (oP (undo_nil) Tryz.func15 (Args.one .t)) r1 qz (qM rfl rfl (qf (o_extract .t rfl) r1 qz (qf (o_extract .t rfl) r1 qz (qf (oH [.slice none 0 0, .slice none 0 0, .slice none 0 0, .slice none 0 0] 112) trivial qz (qf (oA 4 112 .same (.conv .t .agg)) r2 r1 (qN rfl rfl qZ)))))))) hB ?_
  clear hS; intro a w F hS
  replace hS := hS.sub
  obtain ⟨F, hS⟩ := hS.nm [22, 20, 19, 17, 15, 14, 13, 12, 10, 9, 8, 7, 6, 5, 4, 1, 0] [109, 107, 106, 105, 104, 102, 101, 0] rfl rfl
  try dsimp only [RS.sub, SF.sub, CF.sub, csub, Anc.sub, List.map, stCells, xL, xM, Nat.reduceAdd, xD, xE, xT, xU, xC, xN, zCF] at hS
  generalize Act.tau a 21 = v21 at hS
  refine then_n (wp_seq ?_)
  refine region_any (by kernel_rfl) hS (by kernel_rfl) (qM rfl rfl (qf (o_eql .t qi) r1 qz (qM rfl rfl (qm rfl rfl rfl rfl (qk rfl (fun h => o_eql (.w h) qi) r2 qz (qf (o_and2 .t .t) r2 qz (qM rfl rfl (qk rfl (fun h => oL true 4 106 .is) r2 r1 (qk rfl (fun h => oL true 4 105 .is) r2 r1 (qk rfl (fun h => oP (refInvert_c (dN 3)) Tryz.func36 (Args.one (.pagg (.w h)))) r2 qz (qk rfl (fun h => oP (sameDelta_c (inv (dN 3)) (inv (dN 3))) Tryz.func27 (Args.two (.pagg (.w h)) (.w h))) r3 qz (qf (o_and2 .t .t) r2 qz (qM rfl rfl (qm rfl rfl rfl rfl (qk rfl (fun h => o_eql (.w h) qi) r2 qz (qf (o_and2 .t .t) r2 qz (qM rfl rfl (qk rfl (fun h => oL true 4 107 .is) r2 r1 (qk rfl (fun h => oL true 4 104 .is) r2 r1 (qk rfl (fun h => oP (refInvert_c (dN 2)) Tryz.func36 (Args.one (.pagg (.w h)))) r2 qz (qk rfl (fun h => oP (sameDelta_c (inv (dN 2)) (inv (dN 2))) Tryz.func27 (Args.two (.pagg (.w h)) (.w h))) r3 qz (qf (o_and2 .t .t) r2 qz (qM rfl rfl (qm rfl rfl rfl rfl (qk rfl (fun h => o_eql (.w h) qi) r2 qz (qf (o_and2 .t .t) r2 qz (qM rfl rfl (qm rfl rfl rfl rfl (qk rfl (fun h => o_eql (.w h) qi) r2 qz (qf (o_and2 .t .t) r2 qz (qM rfl rfl (qk rfl (fun h => oL true 4 109 .is) r2 r1 (qk rfl (fun h => oL true 4 104 .is) r2 r1 (qk rfl (fun h => oP (sameDelta_c (dN 2) (dN 2)) Tryz.func27 (Args.two (.pagg (.w h)) (.pagg (.w h)))) r3 qz (qf (o_and2 .t .t) r2 qz (qM rfl rfl (qm rfl rfl rfl rfl (qk rfl (fun h => o_eql (.w h) qi) r2 qz (qf (o_and2 .t .t) r2 qz (qM rfl rfl (qm rfl rfl rfl rfl (qk rfl (fun h => o_eql (.w h) qi) r2 qz (qf (o_and2 .t .t) r2 qz (qM rfl rfl (qm rfl rfl rfl rfl (Chain.cons (Cert.condR rfl rfl (by rfl) (fun h => o_callG1 101 (len_c b1 2 [dN 2, dN 1] []) Tryz.func13 rfl (by kernel_rfl) (Args.one (.w h)))) r2 r1 (qk rfl (fun h => o_eql (.w h) qi) r2 qz (qf (o_and2 .t .t) r2 qz (qM rfl rfl (qm rfl rfl rfl rfl (Chain.cons (Cert.condR rfl rfl (by rfl) (fun h => o_callG1 101 (ahead_c b1 2 [dN 2, dN 1] []) Tryz.func19 rfl (by kernel_rfl) (Args.one (.w h)))) r2 r1 (qk rfl (fun h => o_eql (.w h) qi) r2 qz (qf (o_and2 .t .t) r2 qz (qM rfl rfl (qm rfl rfl rfl rfl (qk rfl (fun h => o_eql (.w h) qi) r2 qz (qf (o_and2 .t .t) r2 qz (qM rfl rfl (qm rfl rfl rfl rfl (qk rfl (fun h => o_eql (.w h) qi) r2 qz (qf (o_and2 .t .t) r2 qz (qM rfl rfl (qm rfl rfl rfl rfl (qk rfl (fun h => oP (len_nil) Tryz.func13 (Args.one (.w h))) r2 qz (qk rfl (fun h => o_eql (.w h) qi) r2 qz (qf (o_and2 .t .t) r2 qz (qM rfl rfl (qm rfl rfl rfl rfl (qk rfl (fun h => oP (ahead_nil) Tryz.func19 (Args.one (.w h))) r2 qz (qk rfl (fun h => o_eql (.w h) qi) r2 qz (qf (o_and2 .t .t) r2 qz (qN rfl rfl qZ)))))))))))))))))))))))))))))))))))))))))))))))))))))))))))))))))))))))) (by kernel_rfl) (by rw [hB]; kernel_rfl) ?_
  clear hS; intro a w F hS
  obtain ⟨F, hS⟩ := hS.nm [0] [102, 101, 0] rfl rfl
  try dsimp only [List.map, xD, xE, xT, xU, ldSF] at hS
  refine then_n (wp_ret ?_)
  refine ret_P hfr hS rfl (.tmp rfl .nil) (.one (.bool (by decide)))

end Go.Proofs.YtcfgcpcakdknkaaGreat
