/- Slots: reading. No condition beyond those that each theorem says. -/
import Derived.Test.YtdfpljecogijaaaDoorSl0
namespace Go.Proofs.YtdfpljecogijaaaDoor
open Go Go.Gm
set_option linter.unusedVariables false
set_option linter.unusedSimpArgs false
set_option maxHeartbeats 4000000
set_option maxRecDepth 8000


theorem pairsF_append : ∀ (l m : List Int) (n : Nat), pairsF n (l ++ m) = pairsF n l ++ pairsF (n + l.length) m
  | [], m, n => rfl
  | x :: l, m, n => by
    rw [List.cons_append, pairsF_cons, pairsF_cons, pairsF_append l m (n + 1), List.append_assoc, List.length_cons, show n + 1 + l.length = n + (l.length + 1) by omega]
theorem pairs_next {ids : List Int} {i : Nat} (h : i < ids.length) : pairsF 0 (ids.take (i + 1)) = pairsF 0 (ids.take i) ++ (if Go.Gm.nth ids i = 0 then [] else [⟨(i : Int), Go.Gm.nth ids i⟩]) := by
  rw [take_nth h, pairsF_append, List.length_take, Nat.zero_add, show min i ids.length = i by omega, pairsF_cons]
  simp [pairsF]
def idAt (ids : List Int) (s : Int) : Int := if 0 ≤ s ∧ s < ids.length then Go.Gm.nth ids s.toNat else 0
theorem idL_at (ids : List Int) (s : Int) : idL (pairsF 0 ids) s = idAt ids s := by
  rw [idL_pairs]
  unfold idAt
  simp
abbrev mapS (es : List (MapE Int)) (ck : Nat) (v : Value) : HP := mapH .i32 (fun _ => True) (fun n : Int => Value.int .i64 n) es ck v
def slotParts (v : Value) (N : Nat) (ids : List Int) (x : Value × Value × Value × List (MapE Int) × Nat) : List RS := [.pt (.val v) 85 [.pv (.is x.1), .pv (.is x.2.1), .pv (.is x.2.2.1)], .ob (.val x.1) (rowH 21 1 rI32 ids), .ob (.val x.2.1) (mapS x.2.2.2.1 x.2.2.2.2), RS.hp (setH x.2.2.1 N (freeL ids))]
def slotsH (v : Value) (N : Nat) (ids : List Int) : HP := .ex fun x : Value × Value × Value × List (MapE Int) × Nat => .and (SlotsOk N ids x.2.2.2.1) (.star (slotParts v N ids x))
theorem slotsH_ptr {v : Value} {N : Nat} {ids : List Int} {w : World} {f y : Ys} (h : (slotsH v N ids).p w f y) : ∃ b, v = .pointer (some ⟨b, 0, none⟩) := by
  obtain ⟨_, _, h⟩ := h
  exact HP.star_pt h
theorem slotsH_ok {v : Value} {N : Nat} {ids : List Int} {w : World} {f y : Ys} (h : (slotsH v N ids).p w f y) : N ≤ 4096 ∧ ids.length = N ∧ (∀ i, i < N → 0 ≤ Go.Gm.nth ids i ∧ Go.Gm.nth ids i ≤ 1048575) ∧ (∀ i j, i < N → j < N → Go.Gm.nth ids i = Go.Gm.nth ids j → Go.Gm.nth ids i ≠ 0 → i = j) := by
  obtain ⟨_, h, _⟩ := h
  exact ⟨h.hi, h.len, h.rg, h.one⟩
def roomN (n : Int) : Nat := (if n < 0 then 0 else if n > 4096 then 4096 else n).toNat
theorem roomN_le (n : Int) : roomN n ≤ 4096 := by unfold roomN; split; (· omega); split <;> omega
theorem roomN_eq (n : Int) : (if 4096 < (if n < 0 then 0 else n) then 4096 else if n < 0 then 0 else n) = ((roomN n : Nat) : Int) := by unfold roomN; split <;> split <;> (try split) <;> omega
theorem zero_pvs32 (w : World) (yy : Ys) : PVs (rI32 0) [.int .i32 0] w yy := ⟨⟨rfl, rfl, by simp [inR, IntKind.min, IntKind.max, IntKind.signed, IntKind.bits]⟩, trivial⟩
def upL (i : Nat) : List Int := (List.range i).map fun j : Nat => (j : Int)
theorem mem_upL {i : Nat} {j : Int} : j ∈ upL i ↔ 0 ≤ j ∧ j < i := by
  unfold upL
  rw [List.mem_map]
  constructor
  · rintro ⟨k, hk, rfl⟩; rw [List.mem_range] at hk; omega
  · intro h; exact ⟨j.toNat, by rw [List.mem_range]; omega, by omega⟩
theorem upL_up {i N : Nat} (h : i ≤ N) : Up N (upL i) := by
  refine ⟨?_, fun j hj => by have := mem_upL.1 hj; omega⟩
  unfold upL
  rw [List.pairwise_map]
  exact List.pairwise_lt_range.imp fun h => by omega
theorem upL_next {i N : Nat} (h : i < N) : putL (upL i) N i true = upL (i + 1) := by
  refine up_ext (putL_up (upL_up (by omega)) _ _).1 (upL_up (N := N) (by omega)).1 fun j => ?_
  rw [mem_putL, mem_upL, mem_upL]
  constructor
  · rintro (⟨_, h⟩ | ⟨h, _⟩) <;> omega
  · intro h'
    by_cases e : j = i
    · exact .inr ⟨e, rfl, by omega, by omega⟩
    · exact .inl ⟨e, by omega⟩
theorem upL_free (N : Nat) : upL N = freeL (zerosI N) := by
  have hl : (zerosI N).length = N := by simp [zerosI]
  refine up_ext (upL_up (Nat.le_refl N)).1 (freeL_up _).1 fun j => ?_
  rw [mem_upL, mem_freeL, hl]
  have : Go.Gm.nth (zerosI N) j.toNat = 0 := nth_rep N _
  simp [this]
theorem wrap_i32 {x : Int} (h : -2147483648 ≤ x ∧ x ≤ 2147483647) : IntKind.wrap .i32 x = x := wrap_id ⟨by simp [IntKind.min, IntKind.signed, IntKind.bits]; omega, by simp [IntKind.max, IntKind.signed, IntKind.bits]; omega⟩
def slotR (ids : List Int) (id : Int) : Int := max (slotF 0 ids id) 0
theorem pairD_eq {u v : PairD} (h : (!((decide (u.key = v.key)) && (decide (u.val = v.val) && true))) = false) : u = v := by
  cases u; cases v
  simp at h
  simp [h]
theorem slotR_of {ids : List Int} {id : Int} {i : Nat} (h : slotF 0 ids id = (i : Int)) : slotR ids id = i := by unfold slotR; omega
theorem putPR_len (k v : Int) : ∀ (l : List PairD) (d : Bool), (putPR k v l d).length ≤ l.length + (if d then 0 else 1)
  | [], d => by cases d <;> simp [putPR]
  | p :: l, d => by
    have h1 : (putPR k v l true).length ≤ l.length := by simpa using putPR_len k v l true
    have h2 : (putPR k v l false).length ≤ l.length + 1 := by simpa using putPR_len k v l false
    rw [putPR, List.length_append, List.length_append, List.length_cons]
    cases d <;> by_cases hx : k ≤ p.key <;> by_cases h3 : p.key = k <;> simp [hx, h3] <;> omega
theorem putP_len (l : List PairD) (k v : Int) : (putP l k v).length ≤ l.length + 1 := by have h := putPR_len k v l false; unfold putP; simpa using h
section
variable {out t T : List PairD} {k x : Int} {e : PairD} {d : Bool}
theorem pp_TT (h : out ++ putPR k x (e :: t) d = T) (hA : d = false ∧ k ≤ e.key) (hB : ¬ e.key = k) : out ++ [⟨k, x⟩] ++ [e] ++ putPR k x t true = T := by
  rw [← h, putPR, hA.1]; simp [hA.2, hB]
theorem pp_TF (h : out ++ putPR k x (e :: t) d = T) (hA : d = false ∧ k ≤ e.key) (hB : e.key = k) : out ++ [⟨k, x⟩] ++ putPR k x t true = T := by
  rw [← h, putPR, hA.1]; simp [hA.2, hB]
theorem pp_FT (h : out ++ putPR k x (e :: t) d = T) (hA : ¬ (d = false ∧ k ≤ e.key)) (hB : ¬ e.key = k) : out ++ [e] ++ putPR k x t d = T := by
  rw [← h, putPR, if_neg hA]
  cases d
  · have : ¬ k ≤ e.key := fun h => hA ⟨rfl, h⟩
    simp [this, hB]
  · simp [hB]
theorem pp_FF (h : out ++ putPR k x (e :: t) d = T) (hA : ¬ (d = false ∧ k ≤ e.key)) (hB : e.key = k) : out ++ putPR k x t d = T := by
  rw [← h, putPR, if_neg hA]
  cases d
  · exact absurd ⟨rfl, by omega⟩ hA
  · simp [hB]
end
/-- Taking, by the document. -/
def refTakeL (q : List PairD) (room id : Int) : List PairD × Int × Int :=
  if ¬ (1 ≤ id ∧ id ≤ 1048575) then (q, 0, 1) else if 0 ≤ slotL q id then (q, 0, 4) else
    match (List.range (roomN room)).find? (fun i : Nat => decide (idL q (i : Int) = 0)) with
    | some i => (putP q (i : Int) id, (i : Int), 0)
    | none => (q, 0, 2)
theorem take_ref {N : Nat} {ids : List Int} {es : List (MapE Int)} (h : SlotsOk N ids es) {room : Int} (hr : roomN room = N) (id : Int) : refTakeL (pairsF 0 ids) room id = (pairsF 0 (takeI N ids id).1, (takeI N ids id).2.1, (takeI N ids id).2.2) := by
  have hl := h.len
  unfold refTakeL takeI
  rw [slotL_pairs, hr]
  split
  · rfl
  · rename_i hid
    split
    · rfl
    · by_cases hc : cntI ids = N
      · rw [if_pos hc, List.find?_eq_none.2 fun i hi => by
          rw [List.mem_range] at hi
          have := cntI_full.1 (by rw [hl]; exact hc) i (by omega)
          rw [idL_at]
          unfold idAt
          rw [if_pos (by omega)]
          simpa using this]
      · obtain ⟨i, h1, h2, h3, h4⟩ := firstZ_get h hc
        rw [if_neg hc, h1]
        have hf : (List.range N).find? (fun i : Nat => decide (idL (pairsF 0 ids) (i : Int) = 0)) = some i := by
          rw [List.find?_range_eq_some]
          refine ⟨?_, by rw [List.mem_range]; exact h2, fun j hj => ?_⟩
          · rw [idL_at]; unfold idAt; rw [if_pos (by omega)]; simpa using h3
          · have := h4 j hj
            rw [idL_at]; unfold idAt; rw [if_pos (by omega)]; simpa using this
        rw [hf]
        simp only [Int.toNat_natCast]
        have hp := put_pairs (v := id) (by omega) ids 0 i (by omega) h3
        rw [Nat.zero_add] at hp
        rw [hp]

theorem slot_c (b N : Nat) (ids : List Int) (id : Int) : FnG Tryd.prog 17 1 [.is (.pointer (some ⟨b, 0, none⟩)), .int .i64 id] [slotsH (.pointer (some ⟨b, 0, none⟩)) N ids] (.tup [.int .i64 (slotR ids id), .bool (decide (0 ≤ slotF 0 ids id))]) (fun _ => [slotsH (.pointer (some ⟨b, 0, none⟩)) N ids]) := by
  refine FnG.mk Tryd.func17 rfl Tryd.ntmps17 rfl (by kernel_rfl) ?_
  intro B F0 a w F hB hG hS
  obtain ⟨⟨wv, mv, fv, es, ck⟩, hS⟩ := hS.open_ex 1 rfl
  obtain ⟨hk, hS⟩ := hS.open_and 1 rfl
  dsimp only [slotParts] at hk hS
  obtain ⟨F, hS⟩ := hS.peel 1 2 rfl rfl
  obtain ⟨F, hS⟩ := hS.peel 1 3 rfl rfl
  obtain ⟨F, hS⟩ := hS.peel 1 4 rfl rfl
  obtain ⟨F, hS⟩ := hS.peel 1 5 rfl rfl
  obtain ⟨_, _, _, ho⟩ := hS.obGet 5 rfl
  obtain ⟨bf, rfl⟩ := setH_ptr ho
  clear ho
  have hlen := hk.len
  have hhi := hk.hi
  obtain ⟨F, hS⟩ := hS.norm [(0, _), (1, _)] [(0, _), (2, _), (3, _), (4, _), (5, _)] ⟨rfl, rfl, trivial⟩ ⟨rfl, rfl, rfl, rfl, rfl, trivial⟩
  have hs := hk.slot id
  have hs1 := hs.2.1
  refine wp_seq ?_
  refine region_seq hS (by kernel_rfl)
    (cF rfl (o_assign (.ci (by kernel_rfl)) (by rfl)) trivial trivial
    (cF rfl (o_assign .cb (by rfl)) trivial trivial
    Chain.nil))
    (by kernel_rfl) (by rw [hB]; kernel_rfl) ?_
  clear hS; intro a w F hS
  obtain ⟨F, hS⟩ := hS.norm [(0, _), (1, _), (4, _), (5, _)] [(0, _), (2, _), (3, _), (4, _), (5, _)] r4 r5
  refine then_n ?_
  refine wp_seq ?_
  refine wp_seq ?_
  refine region_seq hS (by kernel_rfl)
    (cF rfl (o_move .t (by rfl)) r1 trivial
    (cF rfl (o_nil_eql _ Tryd.underlying23 rfl .t) r1 trivial
    Chain.nil))
    (by kernel_rfl) (by rw [hB]; kernel_rfl) ?_
  clear hS; intro a w F hS
  obtain ⟨F, hS⟩ := hS.norm [(0, _), (1, _), (4, _), (5, _), (9, _)] [(0, _), (2, _), (3, _), (4, _), (5, _)] r5 r5
  refine then_n ?_
  refine cond_b hS rfl (fun hc0 => ?_) (fun hc0 => ?_)
  ·skip
   simp at hc0
  ·skip
   refine wp_skip ?_
   refine then_n ?_
   refine wp_seq ?_
   refine region_seq hS (by kernel_rfl)
     (cF rfl (o_move .t (by rfl)) r1 trivial
     (cF rfl (o_nilCheck 2 .is (by rfl)) r1 r1
     (cF rfl (o_fieldAddr (off := 1) 2 .adr (by kernel_rfl) (by rfl)) r1 r1
     (cF rfl (o_load (ag := false) (sz := 1) 2 .adr (by kernel_rfl) (by kernel_rfl) (by kernel_rfl) (by rfl)) r1 r1
     (cF rfl (o_move .t (by rfl)) r1 trivial
     (cF rfl (o_lookupOk 4 Tryd.underlying83 (key_int Tryd.underlying3) (by kernel_rfl) .is (IsKeyOf.int .t rfl)) r2 r1
     (cF rfl (o_move .t (by rfl)) r1 trivial
     (cF rfl (o_extract .t rfl) r1 trivial
     (cF rfl (o_extract .t rfl) r1 trivial
     (cF rfl (o_assign .t (by rfl)) r1 trivial
     (cF rfl (o_assign .t (by rfl)) r1 trivial
     Chain.nil)))))))))))
     (by kernel_rfl) (by rw [hB]; kernel_rfl) ?_
   clear hS; intro a w F hS
   obtain ⟨F, hS⟩ := hS.norm [(4, _), (5, _), (6, _), (7, _)] [(0, _), (2, _), (3, _), (4, _), (5, _)] r4 r5
   try dsimp only [List.map, List.drop_succ_cons, List.drop_zero, List.drop_nil, List.take_succ_cons, List.take_zero, List.take_nil, ldSF] at hS
   refine then_n ?_
   refine wp_seq ?_
   refine region_seq hS (by kernel_rfl)
     (cF rfl (o_move .t (by rfl)) r1 trivial
     (cF rfl (o_conv Tryd.underlying3 (by kernel_rfl) .t) r1 trivial
     (cF rfl (o_move .t (by rfl)) r1 trivial
     (cF rfl (o_assign .t (by rfl)) r1 trivial
     (cF rfl (o_assign .t (by rfl)) r1 trivial
     Chain.nil)))))
     (by kernel_rfl) (by rw [hB]; kernel_rfl) ?_
   clear hS; intro a w F hS
   obtain ⟨F, hS⟩ := hS.norm [(4, _), (5, _)] [(0, _), (2, _), (3, _), (4, _), (5, _)] r2 r5
   refine then_n ?_
   refine wp_ret ?_
   obtain ⟨F, hS⟩ := hS.norm [(4, _), (5, _)] [(0, _), (2, _), (3, _), (4, _), (5, _)] ⟨rfl, rfl, trivial⟩ ⟨rfl, rfl, rfl, rfl, rfl, trivial⟩
   have hS := hS.fresh 1 rfl
   obtain ⟨F, hS⟩ := hS.push 1 5 rfl rfl rfl (by kernel_rfl)
   obtain ⟨F, hS⟩ := hS.push 1 4 rfl rfl rfl (by kernel_rfl)
   obtain ⟨F, hS⟩ := hS.push 1 3 rfl rfl rfl (by kernel_rfl)
   obtain ⟨F, hS⟩ := hS.push 1 2 rfl rfl rfl (by kernel_rfl)
   have hS := hS.turn 1 rfl (r' := RS.hp (slotsH (.pointer (some ⟨b, 0, none⟩)) N ids)) (fun _ _ _ _ h => ⟨⟨_, _, _, _, _⟩, hk, h⟩)
   obtain ⟨F, hS⟩ := hS.norm [(4, _), (5, _)] [(0, _), (1, _)] r2 r2
   refine ret_G1 hG hS rfl (.tmp rfl (.tmp rfl .nil)) (.two (.int (by rw [wrap_i64 (by omega)]; exact hs.2.1)) (.bool hs.1)) rfl

theorem slot_nil (id : Int) : FnP Tryd.prog 17 [.is (.pointer none), .int .i64 id] (.tup [.int .i64 0, .bool false]) := by
  refine FnP.mk Tryd.func17 rfl Tryd.ntmps17 rfl ?_
  intro B a w F hB hfr hS
  refine wp_seq ?_
  refine region_seq hS (by kernel_rfl)
    (cF rfl (o_assign (.ci (by kernel_rfl)) (by rfl)) trivial trivial
    (cF rfl (o_assign .cb (by rfl)) trivial trivial
    Chain.nil))
    (by kernel_rfl) (by rw [hB]; kernel_rfl) ?_
  clear hS; intro a w F hS
  obtain ⟨F, hS⟩ := hS.norm [(0, _), (1, _), (4, _), (5, _)] [(0, _)] r4 r1
  refine then_n ?_
  refine wp_seq ?_
  refine wp_seq ?_
  refine region_seq hS (by kernel_rfl)
    (cF rfl (o_move .t (by rfl)) r1 trivial
    (cF rfl (o_nil_eql _ Tryd.underlying23 rfl .t) r1 trivial
    Chain.nil))
    (by kernel_rfl) (by rw [hB]; kernel_rfl) ?_
  clear hS; intro a w F hS
  obtain ⟨F, hS⟩ := hS.norm [(0, _), (1, _), (4, _), (5, _), (9, _)] [(0, _)] r5 r1
  refine then_n ?_
  refine cond_b hS rfl (fun hc0 => ?_) (fun hc0 => ?_)
  ·skip
   refine wp_seq ?_
   refine region_seq hS (by kernel_rfl)
     (cF rfl (o_assign (.ci (by kernel_rfl)) (by rfl)) trivial trivial
     (cF rfl (o_assign .cb (by rfl)) trivial trivial
     Chain.nil))
     (by kernel_rfl) (by rw [hB]; kernel_rfl) ?_
   clear hS; intro a w F hS
   obtain ⟨F, hS⟩ := hS.norm [(0, _), (1, _), (4, _), (5, _)] [(0, _)] r4 r1
   refine then_n ?_
   refine wp_ret ?_
   refine then_r ?_
   refine ret_P hfr hS rfl (.tmp rfl (.tmp rfl .nil)) (.two .refl .refl)
  ·skip
   simp at hc0

theorem slen_c (b N : Nat) (ids : List Int) : FnG Tryd.prog 20 1 [.is (.pointer (some ⟨b, 0, none⟩))] [slotsH (.pointer (some ⟨b, 0, none⟩)) N ids] (.int .i64 (cntI ids)) (fun _ => [slotsH (.pointer (some ⟨b, 0, none⟩)) N ids]) := by
  refine FnG.mk Tryd.func20 rfl Tryd.ntmps20 rfl (by kernel_rfl) ?_
  intro B F0 a w F hB hG hS
  obtain ⟨⟨wv, mv, fv, es, ck⟩, hS⟩ := hS.open_ex 1 rfl
  obtain ⟨hk, hS⟩ := hS.open_and 1 rfl
  dsimp only [slotParts] at hk hS
  obtain ⟨F, hS⟩ := hS.peel 1 2 rfl rfl
  obtain ⟨F, hS⟩ := hS.peel 1 3 rfl rfl
  obtain ⟨F, hS⟩ := hS.peel 1 4 rfl rfl
  obtain ⟨F, hS⟩ := hS.peel 1 5 rfl rfl
  obtain ⟨_, _, _, ho⟩ := hS.obGet 5 rfl
  obtain ⟨bf, rfl⟩ := setH_ptr ho
  clear ho
  have hlen := hk.len
  have hhi := hk.hi
  obtain ⟨F, hS⟩ := hS.norm [(0, _)] [(0, _), (2, _), (3, _), (4, _), (5, _)] ⟨rfl, trivial⟩ ⟨rfl, rfl, rfl, rfl, rfl, trivial⟩
  refine wp_seq ?_
  refine region_seq hS (by kernel_rfl)
    (cF rfl (o_assign (.ci (by kernel_rfl)) (by rfl)) trivial trivial
    Chain.nil)
    (by kernel_rfl) (by rw [hB]; kernel_rfl) ?_
  clear hS; intro a w F hS
  obtain ⟨F, hS⟩ := hS.norm [(0, _), (2, _)] [(0, _), (2, _), (3, _), (4, _), (5, _)] r2 r5
  refine then_n ?_
  refine wp_seq ?_
  refine wp_seq ?_
  refine region_seq hS (by kernel_rfl)
    (cF rfl (o_move .t (by rfl)) r1 trivial
    (cF rfl (o_nil_eql _ Tryd.underlying23 rfl .t) r1 trivial
    Chain.nil))
    (by kernel_rfl) (by rw [hB]; kernel_rfl) ?_
  clear hS; intro a w F hS
  obtain ⟨F, hS⟩ := hS.norm [(0, _), (2, _), (4, _)] [(0, _), (2, _), (3, _), (4, _), (5, _)] r3 r5
  refine then_n ?_
  refine cond_b hS rfl (fun hc0 => ?_) (fun hc0 => ?_)
  ·skip
   simp at hc0
  ·skip
   refine wp_skip ?_
   refine then_n ?_
   refine wp_seq ?_
   refine region_seq hS (by kernel_rfl)
     (cF rfl (o_move .t (by rfl)) r1 trivial
     (cF rfl (o_nilCheck 2 .is (by rfl)) r1 r1
     (cF rfl (o_fieldAddr (off := 1) 2 .adr (by kernel_rfl) (by rfl)) r1 r1
     (cF rfl (o_load (ag := false) (sz := 1) 2 .adr (by kernel_rfl) (by kernel_rfl) (by kernel_rfl) (by rfl)) r1 r1
     (cF rfl (o_len_map 4 Tryd.underlying83 .is (by have := hk.cnt; have := cntI_le ids; omega)) r1 r1
     (cF rfl (o_assign .t (by rfl)) r1 trivial
     Chain.nil))))))
     (by kernel_rfl) (by rw [hB]; kernel_rfl) ?_
   clear hS; intro a w F hS
   obtain ⟨F, hS⟩ := hS.norm [(2, _)] [(0, _), (2, _), (3, _), (4, _), (5, _)] r1 r5
   try dsimp only [List.map, List.drop_succ_cons, List.drop_zero, List.drop_nil, List.take_succ_cons, List.take_zero, List.take_nil, ldSF] at hS
   refine then_n ?_
   refine wp_ret ?_
   obtain ⟨F, hS⟩ := hS.norm [(2, _)] [(0, _), (2, _), (3, _), (4, _), (5, _)] ⟨rfl, trivial⟩ ⟨rfl, rfl, rfl, rfl, rfl, trivial⟩
   have hS := hS.fresh 1 rfl
   obtain ⟨F, hS⟩ := hS.push 1 5 rfl rfl rfl (by kernel_rfl)
   obtain ⟨F, hS⟩ := hS.push 1 4 rfl rfl rfl (by kernel_rfl)
   obtain ⟨F, hS⟩ := hS.push 1 3 rfl rfl rfl (by kernel_rfl)
   obtain ⟨F, hS⟩ := hS.push 1 2 rfl rfl rfl (by kernel_rfl)
   have hS := hS.turn 1 rfl (r' := RS.hp (slotsH (.pointer (some ⟨b, 0, none⟩)) N ids)) (fun _ _ _ _ h => ⟨⟨_, _, _, _, _⟩, hk, h⟩)
   obtain ⟨F, hS⟩ := hS.norm [(2, _)] [(0, _), (1, _)] r1 r2
   refine ret_G1 hG hS rfl (.tmp rfl .nil) (.one (.int (by rw [hk.cnt]))) rfl

theorem slen_nil  : FnP Tryd.prog 20 [.is (.pointer none)] (.int .i64 0) := by
  refine FnP.mk Tryd.func20 rfl Tryd.ntmps20 rfl ?_
  intro B a w F hB hfr hS
  refine wp_seq ?_
  refine region_seq hS (by kernel_rfl)
    (cF rfl (o_assign (.ci (by kernel_rfl)) (by rfl)) trivial trivial
    Chain.nil)
    (by kernel_rfl) (by rw [hB]; kernel_rfl) ?_
  clear hS; intro a w F hS
  obtain ⟨F, hS⟩ := hS.norm [(0, _), (2, _)] [(0, _)] r2 r1
  refine then_n ?_
  refine wp_seq ?_
  refine wp_seq ?_
  refine region_seq hS (by kernel_rfl)
    (cF rfl (o_move .t (by rfl)) r1 trivial
    (cF rfl (o_nil_eql _ Tryd.underlying23 rfl .t) r1 trivial
    Chain.nil))
    (by kernel_rfl) (by rw [hB]; kernel_rfl) ?_
  clear hS; intro a w F hS
  obtain ⟨F, hS⟩ := hS.norm [(0, _), (2, _), (4, _)] [(0, _)] r3 r1
  refine then_n ?_
  refine cond_b hS rfl (fun hc0 => ?_) (fun hc0 => ?_)
  ·skip
   refine wp_seq ?_
   refine region_seq hS (by kernel_rfl)
     (cF rfl (o_assign (.ci (by kernel_rfl)) (by rfl)) trivial trivial
     Chain.nil)
     (by kernel_rfl) (by rw [hB]; kernel_rfl) ?_
   clear hS; intro a w F hS
   obtain ⟨F, hS⟩ := hS.norm [(0, _), (2, _)] [(0, _)] r2 r1
   refine then_n ?_
   refine wp_ret ?_
   refine then_r ?_
   refine ret_P hfr hS rfl (.tmp rfl .nil) (.one .refl)
  ·skip
   simp at hc0

theorem sroom_c (b N : Nat) (ids : List Int) : FnG Tryd.prog 21 1 [.is (.pointer (some ⟨b, 0, none⟩))] [slotsH (.pointer (some ⟨b, 0, none⟩)) N ids] (.int .i64 ((N : Int) - cntI ids)) (fun _ => [slotsH (.pointer (some ⟨b, 0, none⟩)) N ids]) := by
  refine FnG.mk Tryd.func21 rfl Tryd.ntmps21 rfl (by kernel_rfl) ?_
  intro B F0 a w F hB hG hS
  obtain ⟨⟨wv, mv, fv, es, ck⟩, hS⟩ := hS.open_ex 1 rfl
  obtain ⟨hk, hS⟩ := hS.open_and 1 rfl
  dsimp only [slotParts] at hk hS
  obtain ⟨F, hS⟩ := hS.peel 1 2 rfl rfl
  obtain ⟨F, hS⟩ := hS.peel 1 3 rfl rfl
  obtain ⟨F, hS⟩ := hS.peel 1 4 rfl rfl
  obtain ⟨F, hS⟩ := hS.peel 1 5 rfl rfl
  obtain ⟨_, _, _, ho⟩ := hS.obGet 5 rfl
  obtain ⟨bf, rfl⟩ := setH_ptr ho
  clear ho
  have hlen := hk.len
  have hhi := hk.hi
  obtain ⟨F, hS⟩ := hS.norm [(0, _)] [(0, _), (2, _), (3, _), (4, _), (5, _)] ⟨rfl, trivial⟩ ⟨rfl, rfl, rfl, rfl, rfl, trivial⟩
  refine wp_seq ?_
  refine region_seq hS (by kernel_rfl)
    (cF rfl (o_assign (.ci (by kernel_rfl)) (by rfl)) trivial trivial
    Chain.nil)
    (by kernel_rfl) (by rw [hB]; kernel_rfl) ?_
  clear hS; intro a w F hS
  obtain ⟨F, hS⟩ := hS.norm [(0, _), (2, _)] [(0, _), (2, _), (3, _), (4, _), (5, _)] r2 r5
  refine then_n ?_
  refine wp_seq ?_
  refine wp_seq ?_
  refine region_seq hS (by kernel_rfl)
    (cF rfl (o_move .t (by rfl)) r1 trivial
    (cF rfl (o_nil_eql _ Tryd.underlying23 rfl .t) r1 trivial
    Chain.nil))
    (by kernel_rfl) (by rw [hB]; kernel_rfl) ?_
  clear hS; intro a w F hS
  obtain ⟨F, hS⟩ := hS.norm [(0, _), (2, _), (4, _)] [(0, _), (2, _), (3, _), (4, _), (5, _)] r3 r5
  refine then_n ?_
  refine cond_b hS rfl (fun hc0 => ?_) (fun hc0 => ?_)
  ·skip
   simp at hc0
  ·skip
   refine wp_skip ?_
   refine then_n ?_
   refine wp_seq ?_
   refine region_any (by kernel_rfl) hS (by kernel_rfl)
     (cF rfl (o_move .t (by rfl)) r1 trivial
     (cF rfl (o_nilCheck 2 .is (by rfl)) r1 r1
     (cF rfl (o_fieldAddr (off := 0) 2 .adr (by kernel_rfl) (by rfl)) r1 r1
     (cF rfl (o_load (ag := false) (sz := 1) 2 .adr (by kernel_rfl) (by kernel_rfl) (by kernel_rfl) (by rfl)) r1 r1
     (cF rfl (o_len_row 3 Tryd.underlying82 .is) r1 r1
     (cF rfl (o_move .t (by rfl)) r1 trivial
     (cF rfl (o_nilCheck 2 .is (by rfl)) r1 r1
     (cF rfl (o_fieldAddr (off := 1) 2 .adr (by kernel_rfl) (by rfl)) r1 r1
     (cF rfl (o_load (ag := false) (sz := 1) 2 .adr (by kernel_rfl) (by kernel_rfl) (by kernel_rfl) (by rfl)) r1 r1
     (cF rfl (o_len_map 4 Tryd.underlying83 .is (by have := hk.cnt; have := cntI_le ids; omega)) r1 r1
     (cF rfl (o_sub .t .t) r2 trivial
     (cF rfl (o_assign .t (by rfl)) r1 trivial
     Chain.nil))))))))))))
     (by kernel_rfl) (by rw [hB]; kernel_rfl) ?_
   clear hS; intro a w F hS
   obtain ⟨F, hS⟩ := hS.norm [(2, _)] [(0, _), (2, _), (3, _), (4, _), (5, _)] r1 r5
   try dsimp only [List.map, List.drop_succ_cons, List.drop_zero, List.drop_nil, List.take_succ_cons, List.take_zero, List.take_nil, ldSF] at hS
   refine then_n ?_
   refine wp_ret ?_
   obtain ⟨F, hS⟩ := hS.norm [(2, _)] [(0, _), (2, _), (3, _), (4, _), (5, _)] ⟨rfl, trivial⟩ ⟨rfl, rfl, rfl, rfl, rfl, trivial⟩
   have hS := hS.fresh 1 rfl
   obtain ⟨F, hS⟩ := hS.push 1 5 rfl rfl rfl (by kernel_rfl)
   obtain ⟨F, hS⟩ := hS.push 1 4 rfl rfl rfl (by kernel_rfl)
   obtain ⟨F, hS⟩ := hS.push 1 3 rfl rfl rfl (by kernel_rfl)
   obtain ⟨F, hS⟩ := hS.push 1 2 rfl rfl rfl (by kernel_rfl)
   have hS := hS.turn 1 rfl (r' := RS.hp (slotsH (.pointer (some ⟨b, 0, none⟩)) N ids)) (fun _ _ _ _ h => ⟨⟨_, _, _, _, _⟩, hk, h⟩)
   obtain ⟨F, hS⟩ := hS.norm [(2, _)] [(0, _), (1, _)] r1 r2
   refine ret_G1 hG hS rfl (.tmp rfl .nil) (.one (.int (by rw [hk.cnt, hlen, wrap_i64 (by have := cntI_le ids; omega)]))) rfl

theorem sroom_nil  : FnP Tryd.prog 21 [.is (.pointer none)] (.int .i64 0) := by
  refine FnP.mk Tryd.func21 rfl Tryd.ntmps21 rfl ?_
  intro B a w F hB hfr hS
  refine wp_seq ?_
  refine region_seq hS (by kernel_rfl)
    (cF rfl (o_assign (.ci (by kernel_rfl)) (by rfl)) trivial trivial
    Chain.nil)
    (by kernel_rfl) (by rw [hB]; kernel_rfl) ?_
  clear hS; intro a w F hS
  obtain ⟨F, hS⟩ := hS.norm [(0, _), (2, _)] [(0, _)] r2 r1
  refine then_n ?_
  refine wp_seq ?_
  refine wp_seq ?_
  refine region_seq hS (by kernel_rfl)
    (cF rfl (o_move .t (by rfl)) r1 trivial
    (cF rfl (o_nil_eql _ Tryd.underlying23 rfl .t) r1 trivial
    Chain.nil))
    (by kernel_rfl) (by rw [hB]; kernel_rfl) ?_
  clear hS; intro a w F hS
  obtain ⟨F, hS⟩ := hS.norm [(0, _), (2, _), (4, _)] [(0, _)] r3 r1
  refine then_n ?_
  refine cond_b hS rfl (fun hc0 => ?_) (fun hc0 => ?_)
  ·skip
   refine wp_seq ?_
   refine region_seq hS (by kernel_rfl)
     (cF rfl (o_assign (.ci (by kernel_rfl)) (by rfl)) trivial trivial
     Chain.nil)
     (by kernel_rfl) (by rw [hB]; kernel_rfl) ?_
   clear hS; intro a w F hS
   obtain ⟨F, hS⟩ := hS.norm [(0, _), (2, _)] [(0, _)] r2 r1
   refine then_n ?_
   refine wp_ret ?_
   refine then_r ?_
   refine ret_P hfr hS rfl (.tmp rfl .nil) (.one .refl)
  ·skip
   simp at hc0

theorem sid_c (b N : Nat) (ids : List Int) (s0 : Int) : FnG Tryd.prog 18 1 [.is (.pointer (some ⟨b, 0, none⟩)), .int .i64 s0] [slotsH (.pointer (some ⟨b, 0, none⟩)) N ids] (.tup [.int .i64 (idAt ids s0), .bool (!decide (idAt ids s0 = 0))]) (fun _ => [slotsH (.pointer (some ⟨b, 0, none⟩)) N ids]) := by
  refine FnG.mk Tryd.func18 rfl Tryd.ntmps18 rfl (by kernel_rfl) ?_
  intro B F0 a w F hB hG hS
  obtain ⟨⟨wv, mv, fv, es, ck⟩, hS⟩ := hS.open_ex 1 rfl
  obtain ⟨hk, hS⟩ := hS.open_and 1 rfl
  dsimp only [slotParts] at hk hS
  obtain ⟨F, hS⟩ := hS.peel 1 2 rfl rfl
  obtain ⟨F, hS⟩ := hS.peel 1 3 rfl rfl
  obtain ⟨F, hS⟩ := hS.peel 1 4 rfl rfl
  obtain ⟨F, hS⟩ := hS.peel 1 5 rfl rfl
  obtain ⟨_, _, _, ho⟩ := hS.obGet 5 rfl
  obtain ⟨bf, rfl⟩ := setH_ptr ho
  clear ho
  have hlen := hk.len
  have hhi := hk.hi
  obtain ⟨F, hS⟩ := hS.norm [(0, _), (1, _)] [(0, _), (2, _), (3, _), (4, _), (5, _)] ⟨rfl, rfl, trivial⟩ ⟨rfl, rfl, rfl, rfl, rfl, trivial⟩
  refine wp_seq ?_
  refine region_seq hS (by kernel_rfl)
    (cF rfl (o_assign (.ci (by kernel_rfl)) (by rfl)) trivial trivial
    (cF rfl (o_assign .cb (by rfl)) trivial trivial
    Chain.nil))
    (by kernel_rfl) (by rw [hB]; kernel_rfl) ?_
  clear hS; intro a w F hS
  obtain ⟨F, hS⟩ := hS.norm [(0, _), (1, _), (4, _), (5, _)] [(0, _), (2, _), (3, _), (4, _), (5, _)] r4 r5
  refine then_n ?_
  refine wp_seq ?_
  refine wp_seq ?_
  refine region_seq hS (by kernel_rfl)
    (cF rfl (o_move .t (by rfl)) r1 trivial
    (cF rfl (o_nil_eql _ Tryd.underlying23 rfl .t) r1 trivial
    (cF rfl (o_move .t (by rfl)) r1 trivial
    (Chain.cons (Cert.cond rfl rfl (fun h => o_move .t (by rfl))) r2 trivial
    (Chain.cons (Cert.cond rfl rfl (fun h => o_lss (.w h) (.ci (by kernel_rfl)))) r2 trivial
    (cF rfl (o_or2 .t .t) r2 trivial
    (cF rfl (o_move .t (by rfl)) r1 trivial
    (Chain.cons (Cert.cond rfl rfl (fun h => o_move .t (by rfl))) r2 trivial
    (Chain.cons (Cert.cond rfl rfl (fun h => o_move .t (by rfl))) r2 trivial
    (Chain.cons (Cert.cond rfl rfl (fun h => o_nilCheck 2 (.w h .is) (by rfl))) r2 r1
    (Chain.cons (Cert.cond rfl rfl (fun h => o_fieldAddr (off := 0) 2 (.w h .adr) (by kernel_rfl) (by rfl))) r2 r1
    (Chain.cons (Cert.cond rfl rfl (fun h => o_load (ag := false) (sz := 1) 2 (.w h .adr) (by kernel_rfl) (by kernel_rfl) (by kernel_rfl) (by rfl))) r2 r1
    (Chain.cons (Cert.cond rfl rfl (fun h => o_len_row 3 Tryd.underlying82 (.w h .is))) r2 r1
    (Chain.cons (Cert.cond rfl rfl (fun h => o_geq (.w h) (.w h))) r3 trivial
    (cF rfl (o_or2 .t .t) r2 trivial
    Chain.nil)))))))))))))))
    (by kernel_rfl) (by rw [hB]; kernel_rfl) ?_
  clear hS; intro a w F hS
  obtain ⟨F, hS⟩ := hS.norm [(0, _), (1, _), (4, _), (5, _), (21, _)] [(0, _), (2, _), (3, _), (4, _), (5, _)] r5 r5
  try dsimp only [List.map, List.drop_succ_cons, List.drop_zero, List.drop_nil, List.take_succ_cons, List.take_zero, List.take_nil, ldSF] at hS
  refine then_n ?_
  refine cond_b hS rfl (fun hc0 => ?_) (fun hc0 => ?_)
  ·skip
   have hx1 : (0 : Int) = idAt ids s0 := by
     unfold idAt
     rw [if_neg]
     simp at hc0
     omega
   have hx2 : false = !decide (idAt ids s0 = 0) := by rw [← hx1]; rfl
   refine wp_seq ?_
   refine region_seq hS (by kernel_rfl)
     (cF rfl (o_assign (.ci (by kernel_rfl)) (by rfl)) trivial trivial
     (cF rfl (o_assign .cb (by rfl)) trivial trivial
     Chain.nil))
     (by kernel_rfl) (by rw [hB]; kernel_rfl) ?_
   clear hS; intro a w F hS
   obtain ⟨F, hS⟩ := hS.norm [(0, _), (1, _), (4, _), (5, _)] [(0, _), (2, _), (3, _), (4, _), (5, _)] r4 r5
   refine then_n ?_
   refine wp_ret ?_
   refine then_r ?_
   obtain ⟨F, hS⟩ := hS.norm [(0, _), (1, _), (4, _), (5, _)] [(0, _), (2, _), (3, _), (4, _), (5, _)] ⟨rfl, rfl, rfl, rfl, trivial⟩ ⟨rfl, rfl, rfl, rfl, rfl, trivial⟩
   have hS := hS.fresh 1 rfl
   obtain ⟨F, hS⟩ := hS.push 1 5 rfl rfl rfl (by kernel_rfl)
   obtain ⟨F, hS⟩ := hS.push 1 4 rfl rfl rfl (by kernel_rfl)
   obtain ⟨F, hS⟩ := hS.push 1 3 rfl rfl rfl (by kernel_rfl)
   obtain ⟨F, hS⟩ := hS.push 1 2 rfl rfl rfl (by kernel_rfl)
   have hS := hS.turn 1 rfl (r' := RS.hp (slotsH (.pointer (some ⟨b, 0, none⟩)) N ids)) (fun _ _ _ _ h => ⟨⟨_, _, _, _, _⟩, hk, h⟩)
   obtain ⟨F, hS⟩ := hS.norm [(0, _), (1, _), (4, _), (5, _)] [(0, _), (1, _)] r4 r2
   refine ret_G1 hG hS rfl (.tmp rfl (.tmp rfl .nil)) (.two (.int hx1) (.bool hx2)) rfl
  ·skip
   have hsb : 0 ≤ s0 ∧ s0 < ids.length := by simp at hc0; omega
   have hx0 : idAt ids s0 = Go.Gm.nth ids s0.toNat := if_pos hsb
   have hrg := hk.rg s0.toNat (by omega)
   refine wp_skip ?_
   refine then_n ?_
   refine wp_seq ?_
   refine region_seq hS (by kernel_rfl)
     (cF rfl (o_move .t (by rfl)) r1 trivial
     (cF rfl (o_nilCheck 2 .is (by rfl)) r1 r1
     (cF rfl (o_fieldAddr (off := 0) 2 .adr (by kernel_rfl) (by rfl)) r1 r1
     (cF rfl (o_load (ag := false) (sz := 1) 2 .adr (by kernel_rfl) (by kernel_rfl) (by kernel_rfl) (by rfl)) r1 r1
     (cF rfl (o_move .t (by rfl)) r1 trivial
     (cF rfl (o_indexAddr_row (sz := 1) 3 (.mk Tryd.underlying82 (by kernel_rfl)) .is .t (by omega) (by omega) (by rfl)) r2 r1
     (cF rfl (o_load_row0 (ag := false) (sz' := 1) (sz := 1) 3 .t (by intro x; rfl) (by omega) (by kernel_rfl) (by kernel_rfl) (by kernel_rfl)) r1 r1
     (cF rfl (o_conv Tryd.underlying3 (by kernel_rfl) .t) r1 trivial
     (cF rfl (o_assign .t (by rfl)) r1 trivial
     Chain.nil)))))))))
     (by kernel_rfl) (by rw [hB]; kernel_rfl) ?_
   clear hS; intro a w F hS
   obtain ⟨F, hS⟩ := hS.norm [(4, _), (5, _), (6, _)] [(0, _), (2, _), (3, _), (4, _), (5, _)] r3 r5
   try dsimp only [List.map, List.drop_succ_cons, List.drop_zero, List.drop_nil, List.take_succ_cons, List.take_zero, List.take_nil, ldSF] at hS
   try simp only [Int.toNat_natCast] at hS
   rw [wrap_i64 (by omega), ← hx0] at hS
   have hx1 : idAt ids s0 = idAt ids s0 := rfl
   have hx2 : (!decide (idAt ids s0 = 0)) = !decide (idAt ids s0 = 0) := rfl
   refine then_n ?_
   refine wp_seq ?_
   refine region_seq hS (by kernel_rfl)
     (cF rfl (o_move .t (by rfl)) r1 trivial
     (cF rfl (o_move .t (by rfl)) r1 trivial
     (cF rfl (o_neq .t (.ci (by kernel_rfl))) r1 trivial
     (cF rfl (o_assign .t (by rfl)) r1 trivial
     (cF rfl (o_assign .t (by rfl)) r1 trivial
     Chain.nil)))))
     (by kernel_rfl) (by rw [hB]; kernel_rfl) ?_
   clear hS; intro a w F hS
   obtain ⟨F, hS⟩ := hS.norm [(4, _), (5, _)] [(0, _), (2, _), (3, _), (4, _), (5, _)] r2 r5
   refine then_n ?_
   refine wp_ret ?_
   obtain ⟨F, hS⟩ := hS.norm [(4, _), (5, _)] [(0, _), (2, _), (3, _), (4, _), (5, _)] ⟨rfl, rfl, trivial⟩ ⟨rfl, rfl, rfl, rfl, rfl, trivial⟩
   have hS := hS.fresh 1 rfl
   obtain ⟨F, hS⟩ := hS.push 1 5 rfl rfl rfl (by kernel_rfl)
   obtain ⟨F, hS⟩ := hS.push 1 4 rfl rfl rfl (by kernel_rfl)
   obtain ⟨F, hS⟩ := hS.push 1 3 rfl rfl rfl (by kernel_rfl)
   obtain ⟨F, hS⟩ := hS.push 1 2 rfl rfl rfl (by kernel_rfl)
   have hS := hS.turn 1 rfl (r' := RS.hp (slotsH (.pointer (some ⟨b, 0, none⟩)) N ids)) (fun _ _ _ _ h => ⟨⟨_, _, _, _, _⟩, hk, h⟩)
   obtain ⟨F, hS⟩ := hS.norm [(4, _), (5, _)] [(0, _), (1, _)] r2 r2
   refine ret_G1 hG hS rfl (.tmp rfl (.tmp rfl .nil)) (.two (.int hx1) (.bool hx2)) rfl

theorem slist_c (b N : Nat) (ids : List Int) : FnG Tryd.prog 24 1 [.is (.pointer (some ⟨b, 0, none⟩))] [slotsH (.pointer (some ⟨b, 0, none⟩)) N ids] (.sl rPair (pairsF 0 ids)) (fun _ => [slotsH (.pointer (some ⟨b, 0, none⟩)) N ids]) := by
  refine FnG.mk Tryd.func24 rfl Tryd.ntmps24 rfl (by kernel_rfl) ?_
  intro B F0 a w F hB hG hS
  obtain ⟨⟨wv, mv, fv, es, ck⟩, hS⟩ := hS.open_ex 1 rfl
  obtain ⟨hk, hS⟩ := hS.open_and 1 rfl
  dsimp only [slotParts] at hk hS
  obtain ⟨F, hS⟩ := hS.peel 1 2 rfl rfl
  obtain ⟨F, hS⟩ := hS.peel 1 3 rfl rfl
  obtain ⟨F, hS⟩ := hS.peel 1 4 rfl rfl
  obtain ⟨F, hS⟩ := hS.peel 1 5 rfl rfl
  obtain ⟨_, _, _, ho⟩ := hS.obGet 5 rfl
  obtain ⟨bf, rfl⟩ := setH_ptr ho
  clear ho
  have hlen := hk.len
  have hhi := hk.hi
  obtain ⟨F, hS⟩ := hS.norm [(0, _)] [(0, _), (2, _), (3, _), (4, _), (5, _)] ⟨rfl, trivial⟩ ⟨rfl, rfl, rfl, rfl, rfl, trivial⟩
  have hll : ids.length ≤ 9223372036854775807 := by omega
  refine wp_seq ?_
  refine region_seq hS (by kernel_rfl)
    (cF rfl (o_assign (.c rfl) (by rfl)) trivial trivial
    Chain.nil)
    (by kernel_rfl) (by rw [hB]; kernel_rfl) ?_
  clear hS; intro a w F hS
  obtain ⟨F, hS⟩ := hS.norm [(0, _), (2, _)] [(0, _), (2, _), (3, _), (4, _), (5, _)] r2 r5
  refine then_n ?_
  refine wp_seq ?_
  refine region_seq hS (by kernel_rfl)
    (cF rfl (o_assign (.c rfl) (by rfl)) trivial trivial
    Chain.nil)
    (by kernel_rfl) (by rw [hB]; kernel_rfl) ?_
  clear hS; intro a w F hS
  obtain ⟨F, hS⟩ := hS.norm [(0, _), (2, _), (3, _)] [(0, _), (2, _), (3, _), (4, _), (5, _)] r3 r5
  refine then_n ?_
  refine wp_seq ?_
  refine wp_seq ?_
  refine region_seq hS (by kernel_rfl)
    (cF rfl (o_move .t (by rfl)) r1 trivial
    (cF rfl (o_nil_eql _ Tryd.underlying23 rfl .t) r1 trivial
    Chain.nil))
    (by kernel_rfl) (by rw [hB]; kernel_rfl) ?_
  clear hS; intro a w F hS
  obtain ⟨F, hS⟩ := hS.norm [(0, _), (2, _), (3, _), (7, _)] [(0, _), (2, _), (3, _), (4, _), (5, _)] r4 r5
  refine then_n ?_
  refine cond_b hS rfl (fun hc0 => ?_) (fun hc0 => ?_)
  ·skip
   simp at hc0
  ·skip
   refine wp_skip ?_
   refine then_n ?_
   refine wp_seq ?_
   refine wp_seq ?_
   refine region_seq hS (by kernel_rfl)
     (cF rfl (o_move .t (by rfl)) r1 trivial
     (cF rfl (o_nilCheck 2 .is (by rfl)) r1 r1
     (cF rfl (o_fieldAddr (off := 0) 2 .adr (by kernel_rfl) (by rfl)) r1 r1
     (cF rfl (o_load (ag := false) (sz := 1) 2 .adr (by kernel_rfl) (by kernel_rfl) (by kernel_rfl) (by rfl)) r1 r1
     (cF rfl (o_len_row 3 Tryd.underlying82 .is) r1 r1
     (cF rfl (o_move (.ci (by kernel_rfl)) (by rfl)) trivial trivial
     Chain.nil))))))
     (by kernel_rfl) (by rw [hB]; kernel_rfl) ?_
   clear hS; intro a w F hS
   obtain ⟨F, hS⟩ := hS.norm [(2, _), (3, _), (12, _), (13, _), (14, _)] [(0, _), (2, _), (3, _), (4, _), (5, _)] r5 r5
   try dsimp only [List.map, List.drop_succ_cons, List.drop_zero, List.drop_nil, List.take_succ_cons, List.take_zero, List.take_nil, ldSF] at hS
   refine then_n ?_
   refine wp_block ?_
   replace hS := hS.fresh 50 rfl
   replace hS := hS.turn 50 rfl (nilRow (T := 44) (sz := 2) (R := rPair))
   refine loop_keep (σ := (Nat) × (Value) × (List PairD)) [2, 12, 13] [0, 2, 3, 4, 5] (fun s => [(14, .pv (.int .i64 (s.1 : Int))), (3, .pv (.is s.2.1))]) (fun s => [(50, .ob (.val s.2.1) (rowH 44 2 rPair s.2.2))]) (fun s => s.1 ≤ ids.length ∧ (s.2.2 = pairsF 0 (ids.take s.1))) (fun s => ids.length - s.1) ((0), (.slice none 0 0), ([])) hS ⟨rfl, rfl, rfl, rfl, rfl, trivial⟩ ⟨rfl, rfl, rfl, rfl, rfl, rfl, trivial⟩ ⟨Nat.zero_le _, rfl⟩ ?_
   clear hS; intro s a w F hC hS
   obtain ⟨i, v, out⟩ := s
   try dsimp only at hC
   obtain ⟨F, hS⟩ := hS.norm [(2, _), (3, _), (12, _), (13, _), (14, _)] [(0, _), (2, _), (3, _), (4, _), (5, _), (50, _)] r5 r6
   try dsimp only at hS
   obtain ⟨hi, hq⟩ := hC
   have hol : out.length ≤ i := by rw [hq, pairs_len]; exact Nat.le_trans (cntI_le _) (by rw [List.length_take]; omega)
   refine wp_seq ?_
   refine region_seq hS (by kernel_rfl)
     (cF rfl (o_lss .t .t) r2 trivial
     Chain.nil)
     (by kernel_rfl) (by rw [hB]; kernel_rfl) ?_
   clear hS; intro a w F hS
   obtain ⟨F, hS⟩ := hS.norm [(2, _), (3, _), (12, _), (13, _), (14, _), (15, _)] [(0, _), (2, _), (3, _), (4, _), (5, _), (50, _)] r6 r6
   refine then_n ?_
   refine wp_seq ?_
   refine cond_b hS rfl (fun hc1 => ?_) (fun hc1 => ?_)
   ·skip
    have hil : i < ids.length := by simp at hc1; omega
    refine wp_skip ?_
    refine then_n ?_
    refine wp_seq ?_
    refine wp_block ?_
    refine wp_seq ?_
    refine region_seq hS (by kernel_rfl)
      (cF rfl (o_move .t (by rfl)) r1 trivial
      (cF rfl (o_indexAddr_row (sz := 1) 3 (.mk Tryd.underlying82 (by kernel_rfl)) .is .t (by omega) (by omega) (by rfl)) r2 r1
      (cF rfl (o_load_row0 (ag := false) (sz' := 1) (sz := 1) 3 .t (by intro x; rfl) (by rw [Int.toNat_natCast]; omega) (by kernel_rfl) (by kernel_rfl) (by kernel_rfl)) r1 r1
      (cF rfl (o_assign .t (by rfl)) r1 trivial
      (cF rfl (o_assign .t (by rfl)) r1 trivial
      Chain.nil)))))
      (by kernel_rfl) (by rw [hB]; kernel_rfl) ?_
    clear hS; intro a w F hS
    obtain ⟨F, hS⟩ := hS.norm [(2, _), (3, _), (4, _), (5, _), (12, _), (13, _), (14, _), (15, _), (16, _), (17, _), (18, _)] [(0, _), (2, _), (3, _), (4, _), (5, _), (50, _)] ⟨rfl, rfl, rfl, rfl, rfl, rfl, rfl, rfl, rfl, rfl, rfl, trivial⟩ r6
    try dsimp only [List.map, List.drop_succ_cons, List.drop_zero, List.drop_nil, List.take_succ_cons, List.take_zero, List.take_nil, ldSF] at hS
    try simp only [Int.toNat_natCast] at hS
    have hrg := hk.rg i (by omega)
    refine then_n ?_
    refine wp_seq ?_
    refine region_seq hS (by kernel_rfl)
      (cF rfl (o_move .t (by rfl)) r1 trivial
      (cF rfl (o_neq .t (.ci (by kernel_rfl))) r1 trivial
      Chain.nil))
      (by kernel_rfl) (by rw [hB]; kernel_rfl) ?_
    clear hS; intro a w F hS
    obtain ⟨F, hS⟩ := hS.norm [(2, _), (3, _), (4, _), (5, _), (12, _), (13, _), (14, _), (15, _), (16, _), (17, _), (18, _), (19, _), (20, _)] [(0, _), (2, _), (3, _), (4, _), (5, _), (50, _)] ⟨rfl, rfl, rfl, rfl, rfl, rfl, rfl, rfl, rfl, rfl, rfl, rfl, rfl, trivial⟩ r6
    refine then_n ?_
    refine cond_b hS rfl (fun hc2 => ?_) (fun hc2 => ?_)
    ·skip
     have hBq : ¬ Go.Gm.nth ids i = 0 := by simpa using hc2
     refine region_seq hS (by kernel_rfl)
       (cF rfl (o_move .t (by rfl)) r1 trivial
       (cF rfl (o_move .t (by rfl)) r1 trivial
       (cF rfl (o_move .t (by rfl)) r1 trivial
       (cF rfl (o_conv Tryd.underlying3 (by kernel_rfl) .t) r1 trivial
       (cF rfl (o_build (r := [(0, .tmp 22), (1, .tmp 24)]) (zs := [.int .i64 0, .int .i64 0]) (pl := [(0, 1), (1, 1)]) (by kernel_rfl) (by kernel_rfl) (.one rfl .t one_int (by kernel_rfl) (.one rfl .t one_int (by kernel_rfl) .nil)) (by rfl)) r2 trivial
       (cF rfl (o_buildSliceE (sz := 2) (zs := [.int .i64 0, .int .i64 0]) (r := [(0, .tmp 25)]) (l := [_, _]) Tryd.underlying26 (by kernel_rfl) (by kernel_rfl) (by kernel_rfl) (by kernel_rfl) rfl rfl (.agg rfl .t (by kernel_rfl) (by kernel_rfl) .nil) rfl) r1 trivial
       (cF rfl (o_append (sz := 2) (bs := 16) 50 (.mk' Tryd.underlying26 (by kernel_rfl) (by kernel_rfl)) (by intro x; rfl) .is (.arr (l' := [(⟨(i : Int), IntKind.wrap .i64 (Go.Gm.nth ids i)⟩ : PairD)]) .t) (by simp only [List.length_append, List.length_cons, List.length_nil]; omega) (by decide)) ⟨rfl, rfl, trivial⟩ ⟨rfl, trivial⟩
       (cF rfl (o_assign .t (by rfl)) r1 trivial
       Chain.nil))))))))
       (by kernel_rfl) (by rw [hB]; kernel_rfl) ?_
     clear hS; intro a w F hS
     replace hS := hS.sub
     obtain ⟨F, hS⟩ := hS.norm [(2, _), (3, _), (4, _), (5, _), (12, _), (13, _), (14, _), (15, _), (16, _), (17, _), (18, _), (19, _), (20, _), (21, _), (22, _), (23, _), (24, _), (25, _), (26, _), (27, _)] [(0, _), (2, _), (3, _), (4, _), (5, _), (50, _)] ⟨rfl, rfl, rfl, rfl, rfl, rfl, rfl, rfl, rfl, rfl, rfl, rfl, rfl, rfl, rfl, rfl, rfl, rfl, rfl, rfl, trivial⟩ r6
     try dsimp only [RS.sub, SF.sub, CF.sub, csub, Anc.sub, List.map, stCells, List.length_cons, List.length_nil, Nat.reduceAdd, List.drop_succ_cons, List.drop_zero, List.drop_nil, List.take_succ_cons, List.take_zero, List.take_nil, List.cons_append, List.nil_append, zCF] at hS
     generalize Act.tau a 27 = v27 at hS
     rw [wrap_i64 (by omega)] at hS
     refine block_n ?_
     refine then_n ?_
     refine region_seq hS (by kernel_rfl)
       (cF rfl (o_add .t (.ci (by kernel_rfl))) r1 trivial
       (cF rfl (o_move .t (by rfl)) r1 trivial
       Chain.nil))
       (by kernel_rfl) (by rw [hB]; kernel_rfl) ?_
     clear hS; intro a w F hS
     obtain ⟨F, hS⟩ := hS.norm [(2, _), (3, _), (4, _), (5, _), (12, _), (13, _), (14, _), (15, _), (16, _), (17, _), (18, _), (19, _), (20, _), (21, _), (22, _), (23, _), (24, _), (25, _), (26, _), (27, _), (28, _)] [(0, _), (2, _), (3, _), (4, _), (5, _), (50, _)] ⟨rfl, rfl, rfl, rfl, rfl, rfl, rfl, rfl, rfl, rfl, rfl, rfl, rfl, rfl, rfl, rfl, rfl, rfl, rfl, rfl, rfl, trivial⟩ r6
     refine then_n ?_
     replace hS := hS.ent (i := 14) (s' := .pv (.int .i64 ((i + 1 : Nat) : Int))) rfl (.int (wrap_succ (by omega)))
     obtain ⟨F, hS⟩ := hS.norm [(14, _), (3, _), (2, _), (12, _), (13, _)] [(50, _), (0, _), (2, _), (3, _), (4, _), (5, _)] ⟨rfl, rfl, rfl, rfl, rfl, trivial⟩ ⟨rfl, rfl, rfl, rfl, rfl, rfl, trivial⟩
     exact ⟨((i + 1), _, _), F, ⟨by omega, (by rw [pairs_next hil, ← hq]; simp [hBq])⟩, hS, by omega⟩
    ·skip
     have hBq : Go.Gm.nth ids i = 0 := by simpa using hc2
     refine wp_skip ?_
     refine block_n ?_
     refine then_n ?_
     refine region_seq hS (by kernel_rfl)
       (cF rfl (o_add .t (.ci (by kernel_rfl))) r1 trivial
       (cF rfl (o_move .t (by rfl)) r1 trivial
       Chain.nil))
       (by kernel_rfl) (by rw [hB]; kernel_rfl) ?_
     clear hS; intro a w F hS
     obtain ⟨F, hS⟩ := hS.norm [(2, _), (3, _), (4, _), (5, _), (12, _), (13, _), (14, _), (15, _), (16, _), (17, _), (18, _), (19, _), (20, _), (28, _)] [(0, _), (2, _), (3, _), (4, _), (5, _), (50, _)] ⟨rfl, rfl, rfl, rfl, rfl, rfl, rfl, rfl, rfl, rfl, rfl, rfl, rfl, rfl, trivial⟩ r6
     refine then_n ?_
     replace hS := hS.ent (i := 14) (s' := .pv (.int .i64 ((i + 1 : Nat) : Int))) rfl (.int (wrap_succ (by omega)))
     obtain ⟨F, hS⟩ := hS.norm [(14, _), (3, _), (2, _), (12, _), (13, _)] [(50, _), (0, _), (2, _), (3, _), (4, _), (5, _)] ⟨rfl, rfl, rfl, rfl, rfl, trivial⟩ ⟨rfl, rfl, rfl, rfl, rfl, rfl, trivial⟩
     exact ⟨((i + 1), _, _), F, ⟨by omega, (by rw [pairs_next hil, ← hq]; simp [hBq])⟩, hS, by omega⟩
   ·skip
    have hil : i = ids.length := by simp at hc1; omega
    refine wp_exit ?_
    refine then_x ?_
    refine then_x ?_
    refine block_x ?_
    refine then_n ?_
    refine wp_seq ?_
    refine region_seq hS (by kernel_rfl)
      (cF rfl (o_move .t (by rfl)) r1 trivial
      (cF rfl (o_assign .t (by rfl)) r1 trivial
      Chain.nil))
      (by kernel_rfl) (by rw [hB]; kernel_rfl) ?_
    clear hS; intro a w F hS
    obtain ⟨F, hS⟩ := hS.norm [(2, _)] [(0, _), (2, _), (3, _), (4, _), (5, _), (50, _)] r1 r6
    refine then_n ?_
    refine wp_ret ?_
    obtain ⟨F, hS⟩ := hS.give 50 2 rfl rfl
    obtain ⟨F, hS⟩ := hS.norm [(2, _)] [(0, _), (2, _), (3, _), (4, _), (5, _)] ⟨rfl, trivial⟩ ⟨rfl, rfl, rfl, rfl, rfl, trivial⟩
    have hS := hS.fresh 1 rfl
    obtain ⟨F, hS⟩ := hS.push 1 5 rfl rfl rfl (by kernel_rfl)
    obtain ⟨F, hS⟩ := hS.push 1 4 rfl rfl rfl (by kernel_rfl)
    obtain ⟨F, hS⟩ := hS.push 1 3 rfl rfl rfl (by kernel_rfl)
    obtain ⟨F, hS⟩ := hS.push 1 2 rfl rfl rfl (by kernel_rfl)
    have hS := hS.turn 1 rfl (r' := RS.hp (slotsH (.pointer (some ⟨b, 0, none⟩)) N ids)) (fun _ _ _ _ h => ⟨⟨_, _, _, _, _⟩, hk, h⟩)
    obtain ⟨F, hS⟩ := hS.norm [(2, _)] [(0, _), (1, _)] r1 r2
    refine ret_G1 hG hS rfl (.tmp rfl .nil) (.one (.sl (by rw [hq, hil, List.take_length]))) rfl

end Go.Proofs.YtdfpljecogijaaaDoor
