/- The arena's functions: Room of the reference; Len, Room, Get, Cut, New. No condition beyond those that each says. -/
import Derived.Test.YtdfidiehkkbimaaBa0
namespace Go.Proofs.Ytdfidiehkkbimaa
open Go Go.Gm
set_option linter.unusedVariables false
set_option linter.unusedSimpArgs false
set_option maxHeartbeats 4000000
set_option maxRecDepth 8000


structure Cell where
  left : Int
  right : Int
  key : Int
  val : Int
  size : Int
  high : Int
  deriving DecidableEq, Inhabited
def rCell (c : Cell) : List PV := [.int .i64 c.left, .int .i64 c.right, .int .i64 c.key, .int .i64 c.val, .int .i64 c.size, .int .i64 c.high]
def rLinks (c : Cell) : List PV := [.int .u32 c.left, .int .u32 c.right]
def rRest (c : Cell) : List PV := [.int .i64 c.key, .int .i64 c.val, .int .i64 c.size, .int .i64 c.high]
def refRoom (n : Int) : Int := if n < 0 then 0 else if n > 65536 then 65536 else n
def arenaParts (v wv lv : Value) (room : Int) (q : List Cell) : List RS :=
  [.pt (.val v) 145 [.pv (.int .i64 room), .pv (.is wv), .pv (.is lv)], .ob (.val wv) (rowH 220 2 rLinks q), .ob (.val lv) (rowH 222 4 rRest q)]
structure ArOk (room : Int) (q : List Cell) : Prop where
  lo : 0 ≤ room
  hi : room ≤ 65536
  le : (q.length : Int) ≤ room
  ok : ∀ i, i < q.length → 0 ≤ (nth q i).left ∧ (nth q i).left ≤ i ∧ 0 ≤ (nth q i).right ∧ (nth q i).right ≤ i
def arenaH (v : Value) (room : Int) (q : List Cell) : HP := .ex fun wv => .ex fun lv => .and (ArOk room q) (.star (arenaParts v wv lv room q))
def getP (q : List Cell) (i : Int) : Cell × Bool := if 1 ≤ i ∧ i ≤ q.length then (nth q (i - 1).toNat, true) else (default, false)
def getQ (q : List Cell) (i : Int) : PV := .tup [.agg (rCell (getP q i).1), .bool (getP q i).2]
theorem wrap_u32 {x : Int} (h : 0 ≤ x ∧ x ≤ 65536) : IntKind.wrap .u32 x = x := wrap_id ⟨by simp [IntKind.min, IntKind.signed, IntKind.bits]; omega, by simp [IntKind.max, IntKind.signed, IntKind.bits]; omega⟩
theorem arLen_c (b : Nat) (room : Int) (q : List Cell) : FnG Try.prog 89 1 [.is (.pointer (some ⟨b, 0, none⟩))] [arenaH (.pointer (some ⟨b, 0, none⟩)) room q] (.int .i64 q.length) (fun _ => [arenaH (.pointer (some ⟨b, 0, none⟩)) room q]) := by
  refine FnG.mk Try.func89 rfl Try.ntmps89 rfl (by kernel_rfl) ?_
  intro B F0 a w F hB hG hS
  obtain ⟨wv, hS⟩ := hS.open_ex 1 rfl
  obtain ⟨lv, hS⟩ := hS.open_ex 1 rfl
  obtain ⟨hI, hS⟩ := hS.open_and 1 rfl
  obtain ⟨F, hS⟩ := hS.peel 1 2 rfl rfl
  obtain ⟨F, hS⟩ := hS.peel 1 3 rfl rfl
  obtain ⟨F, hS⟩ := hS.peel 1 4 rfl rfl
  obtain ⟨F, hS⟩ := hS.norm [(0, _)] [(0, _), (2, _), (3, _), (4, _)] ⟨rfl, trivial⟩ ⟨rfl, rfl, rfl, rfl, trivial⟩
  refine wp_seq ?_
  refine region_seq hS (by kernel_rfl)
    (cF rfl (o_assign (.ci (by kernel_rfl)) (by rfl)) trivial trivial
    Chain.nil)
    (by kernel_rfl) (by rw [hB]; kernel_rfl) ?_
  clear hS; intro a w F hS
  obtain ⟨F, hS⟩ := hS.norm [(0, _), (2, _)] [(0, _), (2, _), (3, _), (4, _)] r2 r4
  refine then_n ?_
  refine wp_seq ?_
  refine wp_seq ?_
  refine region_seq hS (by kernel_rfl)
    (cF rfl (o_move .t (by rfl)) r1 trivial
    (cF rfl (o_nil_eql _ Try.underlying66 rfl .t) r1 trivial
    Chain.nil))
    (by kernel_rfl) (by rw [hB]; kernel_rfl) ?_
  clear hS; intro a w F hS
  obtain ⟨F, hS⟩ := hS.norm [(0, _), (2, _), (4, _)] [(0, _), (2, _), (3, _), (4, _)] r3 r4
  refine then_n ?_
  refine cond_b hS rfl (fun hc0 => ?_) (fun hc0 => ?_)
  ·skip
   simp at hc0
  refine wp_skip ?_
  refine then_n ?_
  refine wp_seq ?_
  refine region_seq hS (by kernel_rfl)
    (cF rfl (o_move .t (by rfl)) r1 trivial
    (cF rfl (o_nilCheck 2 .is (by rfl)) r1 r1
    (cF rfl (o_fieldAddr (off := 1) 2 .adr (by kernel_rfl) (by rfl)) r1 r1
    (cF rfl (o_load (ag := false) (sz := 1) 2 .adr (by kernel_rfl) (by kernel_rfl) (by kernel_rfl) (by rfl)) r1 r1
    (cF rfl (o_len_row 3 Try.underlying142 .is) r1 r1
    (cF rfl (o_assign .t (by rfl)) r1 trivial
    Chain.nil))))))
    (by kernel_rfl) (by rw [hB]; kernel_rfl) ?_
  clear hS; intro a w F hS
  obtain ⟨F, hS⟩ := hS.norm [(2, _)] [(0, _), (2, _), (3, _), (4, _)] r1 r4
  try dsimp only [List.map, List.drop_succ_cons, List.drop_zero, List.drop_nil, List.take_succ_cons, List.take_zero, List.take_nil, ldSF] at hS
  refine then_n ?_
  refine wp_ret ?_
  have hS := hS.fresh 1 rfl
  obtain ⟨F, hS⟩ := hS.push 1 4 rfl rfl rfl (by kernel_rfl)
  obtain ⟨F, hS⟩ := hS.push 1 3 rfl rfl rfl (by kernel_rfl)
  obtain ⟨F, hS⟩ := hS.push 1 2 rfl rfl rfl (by kernel_rfl)
  have hS := hS.turn 1 rfl (r' := RS.hp (arenaH (.pointer (some ⟨b, 0, none⟩)) room q)) (fun _ _ _ _ h => ⟨_, _, hI, h⟩)
  refine ret_G1 hG hS rfl (.tmp rfl .nil) (.one .refl) rfl

theorem arLen_nil  : FnP Try.prog 89 [.is (.pointer none)] (.int .i64 0) := by
  refine FnP.mk Try.func89 rfl Try.ntmps89 rfl ?_
  intro B a w F hB hfr hS
  refine wp_seq ?_
  refine region_seq hS (by kernel_rfl)
    (cF rfl (o_assign (.ci (by kernel_rfl)) (by rfl)) trivial trivial
    Chain.nil)
    (by kernel_rfl) (by rw [hB]; kernel_rfl) ?_
  clear hS; intro a w F hS
  obtain ⟨F, hS⟩ := hS.norm [(0, _), (2, _)] [(0, _)] r2 r1
  refine then_n ?_
  refine wp_seq ?_
  refine wp_seq ?_
  refine region_seq hS (by kernel_rfl)
    (cF rfl (o_move .t (by rfl)) r1 trivial
    (cF rfl (o_nil_eql _ Try.underlying66 rfl .t) r1 trivial
    Chain.nil))
    (by kernel_rfl) (by rw [hB]; kernel_rfl) ?_
  clear hS; intro a w F hS
  obtain ⟨F, hS⟩ := hS.norm [(0, _), (2, _), (4, _)] [(0, _)] r3 r1
  refine then_n ?_
  refine cond_b hS rfl (fun hc0 => ?_) (fun hc0 => ?_)
  ·skip
   refine wp_seq ?_
   refine region_seq hS (by kernel_rfl)
     (cF rfl (o_assign (.ci (by kernel_rfl)) (by rfl)) trivial trivial
     Chain.nil)
     (by kernel_rfl) (by rw [hB]; kernel_rfl) ?_
   clear hS; intro a w F hS
   obtain ⟨F, hS⟩ := hS.norm [(0, _), (2, _)] [(0, _)] r2 r1
   refine then_n ?_
   refine wp_ret ?_
   refine then_r ?_
   refine ret_P hfr hS rfl (.tmp rfl .nil) (.one .refl)
  simp at hc0

theorem arRoom_c (b : Nat) (room : Int) (q : List Cell) : FnG Try.prog 43 1 [.is (.pointer (some ⟨b, 0, none⟩))] [arenaH (.pointer (some ⟨b, 0, none⟩)) room q] (.int .i64 (room - q.length)) (fun _ => [arenaH (.pointer (some ⟨b, 0, none⟩)) room q]) := by
  refine FnG.mk Try.func43 rfl Try.ntmps43 rfl (by kernel_rfl) ?_
  intro B F0 a w F hB hG hS
  obtain ⟨wv, hS⟩ := hS.open_ex 1 rfl
  obtain ⟨lv, hS⟩ := hS.open_ex 1 rfl
  obtain ⟨hI, hS⟩ := hS.open_and 1 rfl
  obtain ⟨F, hS⟩ := hS.peel 1 2 rfl rfl
  obtain ⟨F, hS⟩ := hS.peel 1 3 rfl rfl
  obtain ⟨F, hS⟩ := hS.peel 1 4 rfl rfl
  obtain ⟨F, hS⟩ := hS.norm [(0, _)] [(0, _), (2, _), (3, _), (4, _)] ⟨rfl, trivial⟩ ⟨rfl, rfl, rfl, rfl, trivial⟩
  refine wp_seq ?_
  refine region_seq hS (by kernel_rfl)
    (cF rfl (o_assign (.ci (by kernel_rfl)) (by rfl)) trivial trivial
    Chain.nil)
    (by kernel_rfl) (by rw [hB]; kernel_rfl) ?_
  clear hS; intro a w F hS
  obtain ⟨F, hS⟩ := hS.norm [(0, _), (2, _)] [(0, _), (2, _), (3, _), (4, _)] r2 r4
  refine then_n ?_
  refine wp_seq ?_
  refine wp_seq ?_
  refine region_seq hS (by kernel_rfl)
    (cF rfl (o_move .t (by rfl)) r1 trivial
    (cF rfl (o_nil_eql _ Try.underlying66 rfl .t) r1 trivial
    Chain.nil))
    (by kernel_rfl) (by rw [hB]; kernel_rfl) ?_
  clear hS; intro a w F hS
  obtain ⟨F, hS⟩ := hS.norm [(0, _), (2, _), (4, _)] [(0, _), (2, _), (3, _), (4, _)] r3 r4
  refine then_n ?_
  refine cond_b hS rfl (fun hc0 => ?_) (fun hc0 => ?_)
  ·skip
   simp at hc0
  refine wp_skip ?_
  refine then_n ?_
  refine wp_seq ?_
  refine region_any (by kernel_rfl) hS (by kernel_rfl)
    (cF rfl (o_move .t (by rfl)) r1 trivial
    (cF rfl (o_nilCheck 2 .is (by rfl)) r1 r1
    (cF rfl (o_fieldAddr (off := 0) 2 .adr (by kernel_rfl) (by rfl)) r1 r1
    (cF rfl (o_load (ag := false) (sz := 1) 2 .adr (by kernel_rfl) (by kernel_rfl) (by kernel_rfl) (by rfl)) r1 r1
    (cF rfl (o_move .t (by rfl)) r1 trivial
    (cF rfl (o_nilCheck 2 .is (by rfl)) r1 r1
    (cF rfl (o_fieldAddr (off := 1) 2 .adr (by kernel_rfl) (by rfl)) r1 r1
    (cF rfl (o_load (ag := false) (sz := 1) 2 .adr (by kernel_rfl) (by kernel_rfl) (by kernel_rfl) (by rfl)) r1 r1
    (cF rfl (o_len_row 3 Try.underlying142 .is) r1 r1
    (cF rfl (o_sub .t .t) r2 trivial
    (cF rfl (o_assign .t (by rfl)) r1 trivial
    Chain.nil)))))))))))
    (by kernel_rfl) (by rw [hB]; kernel_rfl) ?_
  clear hS; intro a w F hS
  obtain ⟨F, hS⟩ := hS.norm [(2, _)] [(0, _), (2, _), (3, _), (4, _)] r1 r4
  try dsimp only [List.map, List.drop_succ_cons, List.drop_zero, List.drop_nil, List.take_succ_cons, List.take_zero, List.take_nil, ldSF] at hS
  refine then_n ?_
  refine wp_ret ?_
  have hS := hS.fresh 1 rfl
  obtain ⟨F, hS⟩ := hS.push 1 4 rfl rfl rfl (by kernel_rfl)
  obtain ⟨F, hS⟩ := hS.push 1 3 rfl rfl rfl (by kernel_rfl)
  obtain ⟨F, hS⟩ := hS.push 1 2 rfl rfl rfl (by kernel_rfl)
  have hS := hS.turn 1 rfl (r' := RS.hp (arenaH (.pointer (some ⟨b, 0, none⟩)) room q)) (fun _ _ _ _ h => ⟨_, _, hI, h⟩)
  refine ret_G1 hG hS rfl (.tmp rfl .nil) (.one (.int (wrap_i64 (by have := hI.lo; have := hI.hi; have := hI.le; omega)))) rfl

theorem arRoom_nil  : FnP Try.prog 43 [.is (.pointer none)] (.int .i64 0) := by
  refine FnP.mk Try.func43 rfl Try.ntmps43 rfl ?_
  intro B a w F hB hfr hS
  refine wp_seq ?_
  refine region_seq hS (by kernel_rfl)
    (cF rfl (o_assign (.ci (by kernel_rfl)) (by rfl)) trivial trivial
    Chain.nil)
    (by kernel_rfl) (by rw [hB]; kernel_rfl) ?_
  clear hS; intro a w F hS
  obtain ⟨F, hS⟩ := hS.norm [(0, _), (2, _)] [(0, _)] r2 r1
  refine then_n ?_
  refine wp_seq ?_
  refine wp_seq ?_
  refine region_seq hS (by kernel_rfl)
    (cF rfl (o_move .t (by rfl)) r1 trivial
    (cF rfl (o_nil_eql _ Try.underlying66 rfl .t) r1 trivial
    Chain.nil))
    (by kernel_rfl) (by rw [hB]; kernel_rfl) ?_
  clear hS; intro a w F hS
  obtain ⟨F, hS⟩ := hS.norm [(0, _), (2, _), (4, _)] [(0, _)] r3 r1
  refine then_n ?_
  refine cond_b hS rfl (fun hc0 => ?_) (fun hc0 => ?_)
  ·skip
   refine wp_seq ?_
   refine region_seq hS (by kernel_rfl)
     (cF rfl (o_assign (.ci (by kernel_rfl)) (by rfl)) trivial trivial
     Chain.nil)
     (by kernel_rfl) (by rw [hB]; kernel_rfl) ?_
   clear hS; intro a w F hS
   obtain ⟨F, hS⟩ := hS.norm [(0, _), (2, _)] [(0, _)] r2 r1
   refine then_n ?_
   refine wp_ret ?_
   refine then_r ?_
   refine ret_P hfr hS rfl (.tmp rfl .nil) (.one .refl)
  simp at hc0

theorem arGet_c (b : Nat) (room : Int) (q : List Cell) (i : Int) : FnG Try.prog 126 1 [.is (.pointer (some ⟨b, 0, none⟩)), .int .i64 i] [arenaH (.pointer (some ⟨b, 0, none⟩)) room q] (getQ q i) (fun _ => [arenaH (.pointer (some ⟨b, 0, none⟩)) room q]) := by
  refine FnG.mk Try.func126 rfl Try.ntmps126 rfl (by kernel_rfl) ?_
  intro B F0 a w F hB hG hS
  refine wp_seq ?_
  refine region_seq hS (by kernel_rfl)
    (cF rfl (o_alloc (zs := [.int .i64 0, .int .i64 0, .int .i64 0, .int .i64 0, .int .i64 0, .int .i64 0]) 101 (by kernel_rfl)) trivial trivial
    (cF rfl (o_assign .cb (by rfl)) trivial trivial
    Chain.nil))
    (by kernel_rfl) (by rw [hB]; kernel_rfl) ?_
  clear hS; intro a w F hS
  replace hS := hS.sub
  obtain ⟨F, hS⟩ := hS.norm [(0, _), (1, _), (4, _), (5, _)] [(0, _), (1, _), (101, _)] r4 r3
  try dsimp only [RS.sub, SF.sub, CF.sub, csub, Anc.sub, List.map, zCF] at hS
  generalize Act.tau a 4 = v4 at hS
  refine then_n ?_
  refine wp_seq ?_
  refine wp_seq ?_
  refine region_seq hS (by kernel_rfl)
    (cF rfl (o_move .t (by rfl)) r1 trivial
    (cF rfl (o_lss .t (.ci (by kernel_rfl))) r1 trivial
    (cF rfl (o_move .t (by rfl)) r1 trivial
    (Chain.cons (Cert.cond rfl rfl (fun h => o_move .t (by rfl))) r2 trivial
    (Chain.cons (Cert.cond rfl rfl (fun h => o_move .t (by rfl))) r2 trivial
    (Chain.cons (Cert.condR rfl rfl (by rfl) (fun h => o_callG1 1 (arLen_c b room q) Try.func89 rfl (by kernel_rfl) (Args.one (.w h)))) r2 r1
    (Chain.cons (Cert.cond rfl rfl (fun h => o_gtr (.w h) (.w h))) r3 trivial
    (cF rfl (o_or2 .t .t) r2 trivial
    Chain.nil))))))))
    (by kernel_rfl) (by rw [hB]; kernel_rfl) ?_
  clear hS; intro a w F hS
  obtain ⟨F, hS⟩ := hS.norm [(0, _), (1, _), (4, _), (5, _), (15, _)] [(0, _), (1, _), (101, _)] r5 r3
  refine then_n ?_
  refine cond_b hS rfl (fun hc0 => ?_) (fun hc0 => ?_)
  ·skip
   have hg : getP q i = (default, false) := by unfold getP; rw [if_neg]; simp at hc0; omega
   refine wp_seq ?_
   refine region_seq hS (by kernel_rfl)
     (cF rfl (o_build (r := []) (zs := [.int .i64 0, .int .i64 0, .int .i64 0, .int .i64 0, .int .i64 0, .int .i64 0]) (pl := [(0, 1), (1, 1), (2, 1), (3, 1), (4, 1), (5, 1)]) (by kernel_rfl) (by kernel_rfl) .nil (by rfl)) trivial trivial
     (cF rfl (o_storeA (sz := 6) 101 .is .t (by kernel_rfl) (by kernel_rfl) (by kernel_rfl)) r2 r1
     (cF rfl (o_assign .cb (by rfl)) trivial trivial
     Chain.nil)))
     (by kernel_rfl) (by rw [hB]; kernel_rfl) ?_
   clear hS; intro a w F hS
   obtain ⟨F, hS⟩ := hS.norm [(0, _), (1, _), (4, _), (5, _)] [(0, _), (1, _), (101, _)] r4 r3
   try dsimp only [List.map, stCells, List.length_cons, List.length_nil, Nat.reduceAdd, List.drop_succ_cons, List.drop_zero, List.drop_nil, List.take_succ_cons, List.take_zero, List.take_nil, List.cons_append, List.nil_append, zCF] at hS
   refine then_n ?_
   refine wp_ret ?_
   refine then_r ?_
   refine ret_G1 hG hS rfl (.cell (n := 101) (ag := true) (sz := 6) rfl .is rfl (by kernel_rfl) (by kernel_rfl) (by kernel_rfl) (.tmp rfl .nil)) (.two (.aggU rfl (by rw [hg]; rfl)) (.bool (by rw [hg]))) rfl
  obtain ⟨wv, hS⟩ := hS.open_ex 1 rfl
  obtain ⟨lv, hS⟩ := hS.open_ex 1 rfl
  obtain ⟨hI, hS⟩ := hS.open_and 1 rfl
  obtain ⟨F, hS⟩ := hS.peel 1 2 rfl rfl
  obtain ⟨F, hS⟩ := hS.peel 1 3 rfl rfl
  obtain ⟨F, hS⟩ := hS.peel 1 4 rfl rfl
  have hb : 1 ≤ i ∧ i ≤ q.length := by simp at hc0; omega
  have hg : getP q i = (nth q (i - 1).toNat, true) := by unfold getP; rw [if_pos hb]
  have hl := hI.hi
  have hm := hI.le
  have he : IntKind.wrap .i64 (i - 1) = i - 1 := wrap_i64 (by omega)
  have h0 : 0 ≤ IntKind.wrap .i64 (i - 1) := by omega
  have h1 : IntKind.wrap .i64 (i - 1) < q.length := by omega
  have h2 : (IntKind.wrap .i64 (i - 1)).toNat < q.length := by omega
  have ho := hI.ok _ (show (i - 1).toNat < q.length by omega)
  have hw1 : IntKind.wrap .i64 (nth q (IntKind.wrap .i64 (i - 1)).toNat).left = (nth q (i - 1).toNat).left := by rw [he]; exact wrap_i64 (by omega)
  have hw2 : IntKind.wrap .i64 (nth q (IntKind.wrap .i64 (i - 1)).toNat).right = (nth q (i - 1).toNat).right := by rw [he]; exact wrap_i64 (by omega)
  have hcell : rCell ⟨IntKind.wrap .i64 (nth q (IntKind.wrap .i64 (i - 1)).toNat).left, IntKind.wrap .i64 (nth q (IntKind.wrap .i64 (i - 1)).toNat).right, (nth q (IntKind.wrap .i64 (i - 1)).toNat).key, (nth q (IntKind.wrap .i64 (i - 1)).toNat).val, (nth q (IntKind.wrap .i64 (i - 1)).toNat).size, (nth q (IntKind.wrap .i64 (i - 1)).toNat).high⟩ = rCell (nth q (i - 1).toNat) := by rw [hw1, hw2, he]
  obtain ⟨F, hS⟩ := hS.norm [(0, _), (1, _), (4, _), (5, _), (15, _)] [(0, _), (2, _), (3, _), (4, _), (101, _)] r5 r5
  refine wp_skip ?_
  refine then_n ?_
  refine wp_seq ?_
  refine region_any (by kernel_rfl) hS (by kernel_rfl)
    (cF rfl (o_move .t (by rfl)) r1 trivial
    (cF rfl (o_nilCheck 2 .is (by rfl)) r1 r1
    (cF rfl (o_fieldAddr (off := 1) 2 .adr (by kernel_rfl) (by rfl)) r1 r1
    (cF rfl (o_load (ag := false) (sz := 1) 2 .adr (by kernel_rfl) (by kernel_rfl) (by kernel_rfl) (by rfl)) r1 r1
    (cF rfl (o_move .t (by rfl)) r1 trivial
    (cF rfl (o_sub .t (.ci (by kernel_rfl))) r1 trivial
    (cF rfl (o_indexAddr_row (sz := 2) 3 (.mk Try.underlying142 (by kernel_rfl)) .is .t (by first | assumption | omega) (by first | assumption | omega) (by rfl)) r2 r1
    (cF rfl (o_load_row0 (ag := true) (sz' := 2) (sz := 2) 3 .t (by intro x; rfl) (by assumption) (by kernel_rfl) (by kernel_rfl) (by kernel_rfl)) r1 r1
    (cF rfl (o_move .t (by rfl)) r1 trivial
    (cF rfl (o_nilCheck 2 .is (by rfl)) r1 r1
    (cF rfl (o_fieldAddr (off := 2) 2 .adr (by kernel_rfl) (by rfl)) r1 r1
    (cF rfl (o_load (ag := false) (sz := 1) 2 .adr (by kernel_rfl) (by kernel_rfl) (by kernel_rfl) (by rfl)) r1 r1
    (cF rfl (o_move .t (by rfl)) r1 trivial
    (cF rfl (o_sub .t (.ci (by kernel_rfl))) r1 trivial
    (cF rfl (o_indexAddr_row (sz := 4) 4 (.mk Try.underlying143 (by kernel_rfl)) .is .t (by first | assumption | omega) (by first | assumption | omega) (by rfl)) r2 r1
    (cF rfl (o_load_row0 (ag := true) (sz' := 4) (sz := 4) 4 .t (by intro x; rfl) (by assumption) (by kernel_rfl) (by kernel_rfl) (by kernel_rfl)) r1 r1
    (cF rfl (o_alloc (zs := [.int .u32 0, .int .u32 0]) 102 (by kernel_rfl)) trivial trivial
    (cF rfl (o_alloc (zs := [.int .i64 0, .int .i64 0, .int .i64 0, .int .i64 0]) 103 (by kernel_rfl)) trivial trivial
    (cF rfl (o_storeA (sz := 2) 102 .same .t (by kernel_rfl) (by kernel_rfl) (by kernel_rfl)) r2 r1
    (cF rfl (o_storeA (sz := 4) 103 .same .t (by kernel_rfl) (by kernel_rfl) (by kernel_rfl)) r2 r1
    Chain.nil))))))))))))))))))))
    (by kernel_rfl) (by rw [hB]; kernel_rfl) ?_
  clear hS; intro a w F hS
  replace hS := hS.sub
  obtain ⟨F, hS⟩ := hS.norm [(4, _), (5, _), (6, _), (7, _)] [(0, _), (2, _), (3, _), (4, _), (101, _), (102, _), (103, _)] r4 r7
  try dsimp only [RS.sub, SF.sub, CF.sub, csub, Anc.sub, List.map, stCells, List.length_cons, List.length_nil, Nat.reduceAdd, List.drop_succ_cons, List.drop_zero, List.drop_nil, List.take_succ_cons, List.take_zero, List.take_nil, List.cons_append, List.nil_append, zCF, ldSF] at hS
  generalize Act.tau a 6 = v6 at hS
  generalize Act.tau a 7 = v7 at hS
  refine then_n ?_
  refine wp_seq ?_
  refine region_seq hS (by kernel_rfl)
    (cF rfl (o_fieldAddr (off := 0) 102 .is (by kernel_rfl) (by rfl)) r1 r1
    (cF rfl (o_load (ag := false) (sz := 1) 102 .adr (by kernel_rfl) (by kernel_rfl) (by kernel_rfl) (by rfl)) r1 r1
    (cF rfl (o_conv Try.underlying3 (by kernel_rfl) .t) r1 trivial
    (cF rfl (o_fieldAddr (off := 1) 102 .is (by kernel_rfl) (by rfl)) r1 r1
    (cF rfl (o_load (ag := false) (sz := 1) 102 .adr (by kernel_rfl) (by kernel_rfl) (by kernel_rfl) (by rfl)) r1 r1
    (cF rfl (o_conv Try.underlying3 (by kernel_rfl) .t) r1 trivial
    (cF rfl (o_fieldAddr (off := 0) 103 .is (by kernel_rfl) (by rfl)) r1 r1
    (cF rfl (o_load (ag := false) (sz := 1) 103 .adr (by kernel_rfl) (by kernel_rfl) (by kernel_rfl) (by rfl)) r1 r1
    (cF rfl (o_fieldAddr (off := 1) 103 .is (by kernel_rfl) (by rfl)) r1 r1
    (cF rfl (o_load (ag := false) (sz := 1) 103 .adr (by kernel_rfl) (by kernel_rfl) (by kernel_rfl) (by rfl)) r1 r1
    (cF rfl (o_fieldAddr (off := 2) 103 .is (by kernel_rfl) (by rfl)) r1 r1
    (cF rfl (o_load (ag := false) (sz := 1) 103 .adr (by kernel_rfl) (by kernel_rfl) (by kernel_rfl) (by rfl)) r1 r1
    (cF rfl (o_fieldAddr (off := 3) 103 .is (by kernel_rfl) (by rfl)) r1 r1
    (cF rfl (o_load (ag := false) (sz := 1) 103 .adr (by kernel_rfl) (by kernel_rfl) (by kernel_rfl) (by rfl)) r1 r1
    (cF rfl (o_build (r := [(0, .tmp 35), (1, .tmp 38), (2, .tmp 40), (3, .tmp 42), (4, .tmp 44), (5, .tmp 46)]) (zs := [.int .i64 0, .int .i64 0, .int .i64 0, .int .i64 0, .int .i64 0, .int .i64 0]) (pl := [(0, 1), (1, 1), (2, 1), (3, 1), (4, 1), (5, 1)]) (by kernel_rfl) (by kernel_rfl) (.one rfl .t one_int (by kernel_rfl) (.one rfl .t one_int (by kernel_rfl) (.one rfl .t one_int (by kernel_rfl) (.one rfl .t one_int (by kernel_rfl) (.one rfl .t one_int (by kernel_rfl) (.one rfl .t one_int (by kernel_rfl) .nil)))))) (by rfl)) r6 trivial
    (cF rfl (o_storeA (sz := 6) 101 .is .t (by kernel_rfl) (by kernel_rfl) (by kernel_rfl)) r2 r1
    (cF rfl (o_assign .cb (by rfl)) trivial trivial
    Chain.nil)))))))))))))))))
    (by kernel_rfl) (by rw [hB]; kernel_rfl) ?_
  clear hS; intro a w F hS
  obtain ⟨F, hS⟩ := hS.norm [(4, _), (5, _)] [(0, _), (2, _), (3, _), (4, _), (101, _)] r2 r5
  try dsimp only [List.map, stCells, List.length_cons, List.length_nil, Nat.reduceAdd, List.drop_succ_cons, List.drop_zero, List.drop_nil, List.take_succ_cons, List.take_zero, List.take_nil, List.cons_append, List.nil_append, zCF, ldSF] at hS
  refine then_n ?_
  refine wp_ret ?_
  have hS := hS.fresh 1 rfl
  obtain ⟨F, hS⟩ := hS.push 1 4 rfl rfl rfl (by kernel_rfl)
  obtain ⟨F, hS⟩ := hS.push 1 3 rfl rfl rfl (by kernel_rfl)
  obtain ⟨F, hS⟩ := hS.push 1 2 rfl rfl rfl (by kernel_rfl)
  have hS := hS.turn 1 rfl (r' := RS.hp (arenaH (.pointer (some ⟨b, 0, none⟩)) room q)) (fun _ _ _ _ h => ⟨_, _, hI, h⟩)
  refine ret_G1 hG hS rfl (.cell (n := 101) (ag := true) (sz := 6) rfl .is rfl (by kernel_rfl) (by kernel_rfl) (by kernel_rfl) (.tmp rfl .nil)) (.two (.aggU rfl (by rw [hg]; exact hcell)) (.bool (by rw [hg]))) rfl

def cutIs (q : List Cell) (n : Int) : Bool := decide (0 ≤ n ∧ n ≤ q.length)
def arCut (q : List Cell) (n : Int) : List Cell := if 0 ≤ n ∧ n ≤ q.length then q.take n.toNat else q
theorem arNth_take {q : List Cell} {k i : Nat} (h : i < (q.take k).length) : nth (q.take k) i = nth q i := by
  have h1 : i < q.length := by have := List.length_take_le' k q; omega
  rw [nth_eq h, nth_eq h1, List.getElem_take]
theorem ArOk.cut {room : Int} {q : List Cell} (h : ArOk room q) (n : Int) : ArOk room (arCut q n) := by
  unfold arCut
  split
  · refine ⟨h.lo, h.hi, ?_, fun i hi => ?_⟩
    · have := h.le; have := List.length_take_le' n.toNat q; omega
    · rw [arNth_take hi]; exact h.ok i (by have := List.length_take_le' n.toNat q; omega)
  · exact h

theorem arCut_c (b : Nat) (room : Int) (q : List Cell) (n : Int) : FnG Try.prog 123 1 [.is (.pointer (some ⟨b, 0, none⟩)), .int .i64 n] [arenaH (.pointer (some ⟨b, 0, none⟩)) room q] (.bool (cutIs q n)) (fun _ => [arenaH (.pointer (some ⟨b, 0, none⟩)) room (arCut q n)]) := by
  refine FnG.mk Try.func123 rfl Try.ntmps123 rfl (by kernel_rfl) ?_
  intro B F0 a w F hB hG hS
  refine wp_seq ?_
  refine region_seq hS (by kernel_rfl)
    (cF rfl (o_assign .cb (by rfl)) trivial trivial
    Chain.nil)
    (by kernel_rfl) (by rw [hB]; kernel_rfl) ?_
  clear hS; intro a w F hS
  obtain ⟨F, hS⟩ := hS.norm [(0, _), (1, _), (4, _)] [(0, _), (1, _)] r3 r2
  refine then_n ?_
  refine wp_seq ?_
  refine wp_seq ?_
  refine region_seq hS (by kernel_rfl)
    (cF rfl (o_move .t (by rfl)) r1 trivial
    (cF rfl (o_lss .t (.ci (by kernel_rfl))) r1 trivial
    (cF rfl (o_move .t (by rfl)) r1 trivial
    (Chain.cons (Cert.cond rfl rfl (fun h => o_move .t (by rfl))) r2 trivial
    (Chain.cons (Cert.cond rfl rfl (fun h => o_move .t (by rfl))) r2 trivial
    (Chain.cons (Cert.condR rfl rfl (by rfl) (fun h => o_callG1 1 (arLen_c b room q) Try.func89 rfl (by kernel_rfl) (Args.one (.w h)))) r2 r1
    (Chain.cons (Cert.cond rfl rfl (fun h => o_gtr (.w h) (.w h))) r3 trivial
    (cF rfl (o_or2 .t .t) r2 trivial
    Chain.nil))))))))
    (by kernel_rfl) (by rw [hB]; kernel_rfl) ?_
  clear hS; intro a w F hS
  obtain ⟨F, hS⟩ := hS.norm [(0, _), (1, _), (4, _), (12, _)] [(0, _), (1, _)] r4 r2
  refine then_n ?_
  refine cond_b hS rfl (fun hc0 => ?_) (fun hc0 => ?_)
  ·skip
   have hb : ¬ (0 ≤ n ∧ n ≤ q.length) := by simp at hc0; omega
   have hg : arCut q n = q := if_neg hb
   have hg' : cutIs q n = false := decide_eq_false hb
   refine wp_seq ?_
   refine region_seq hS (by kernel_rfl)
     (cF rfl (o_assign .cb (by rfl)) trivial trivial
     Chain.nil)
     (by kernel_rfl) (by rw [hB]; kernel_rfl) ?_
   clear hS; intro a w F hS
   obtain ⟨F, hS⟩ := hS.norm [(0, _), (1, _), (4, _)] [(0, _), (1, _)] r3 r2
   refine then_n ?_
   refine wp_ret ?_
   refine then_r ?_
   have hS := hS.turn 1 rfl (r' := RS.hp (arenaH (.pointer (some ⟨b, 0, none⟩)) room (arCut q n))) (fun _ _ _ _ h => by rw [hg]; exact h)
   refine ret_G1 hG hS rfl (.tmp rfl .nil) (.one (.bool (by rw [hg']))) rfl
  have hb : (0 ≤ n ∧ n ≤ q.length) := by simp at hc0; omega
  have hg : arCut q n = q.take n.toNat := if_pos hb
  have hg' : cutIs q n = true := decide_eq_true hb
  refine wp_skip ?_
  refine then_n ?_
  refine wp_seq ?_
  refine wp_seq ?_
  refine region_seq hS (by kernel_rfl)
    (cF rfl (o_move .t (by rfl)) r1 trivial
    (cF rfl (o_nil_neq _ Try.underlying66 rfl .t) r1 trivial
    Chain.nil))
    (by kernel_rfl) (by rw [hB]; kernel_rfl) ?_
  clear hS; intro a w F hS
  obtain ⟨F, hS⟩ := hS.norm [(0, _), (1, _), (4, _), (14, _)] [(0, _), (1, _)] r4 r2
  refine then_n ?_
  refine cond_b hS rfl (fun hc1 => ?_) (fun hc1 => ?_)
  ·skip
   obtain ⟨wv, hS⟩ := hS.open_ex 1 rfl
   obtain ⟨lv, hS⟩ := hS.open_ex 1 rfl
   obtain ⟨hI, hS⟩ := hS.open_and 1 rfl
   obtain ⟨F, hS⟩ := hS.peel 1 2 rfl rfl
   obtain ⟨F, hS⟩ := hS.peel 1 3 rfl rfl
   obtain ⟨F, hS⟩ := hS.peel 1 4 rfl rfl
   have h0 := hb.1
   have h1 := hb.2
   obtain ⟨F, hS⟩ := hS.norm [(0, _), (1, _), (4, _), (14, _)] [(0, _), (2, _), (3, _), (4, _)] r4 r4
   refine region_any (by kernel_rfl) hS (by kernel_rfl)
     (cF rfl (o_move .t (by rfl)) r1 trivial
     (cF rfl (o_move .t (by rfl)) r1 trivial
     (cF rfl (o_move .t (by rfl)) r1 trivial
     (cF rfl (o_nilCheck 2 .is (by rfl)) r1 r1
     (cF rfl (o_fieldAddr (off := 1) 2 .adr (by kernel_rfl) (by rfl)) r1 r1
     (cF rfl (o_load (ag := false) (sz := 1) 2 .adr (by kernel_rfl) (by kernel_rfl) (by kernel_rfl) (by rfl)) r1 r1
     (cF rfl (o_move .t (by rfl)) r1 trivial
     (cF rfl (o_cut_row (sz := 2) 3 (.mk Try.underlying142 (by kernel_rfl)) (by intro x; rfl) .is .t (by assumption) (by assumption)) r2 r1
     (cF rfl (o_move .t (by rfl)) r1 trivial
     (cF rfl (o_nilCheck 2 .is (by rfl)) r1 r1
     (cF rfl (o_fieldAddr (off := 2) 2 .adr (by kernel_rfl) (by rfl)) r1 r1
     (cF rfl (o_load (ag := false) (sz := 1) 2 .adr (by kernel_rfl) (by kernel_rfl) (by kernel_rfl) (by rfl)) r1 r1
     (cF rfl (o_move .t (by rfl)) r1 trivial
     (cF rfl (o_cut_row (sz := 4) 4 (.mk Try.underlying143 (by kernel_rfl)) (by intro x; rfl) .is .t (by assumption) (by assumption)) r2 r1
     (cF rfl (o_nilCheck 2 .is (by rfl)) r1 r1
     (cF rfl (o_fieldAddr (off := 1) 2 .adr (by kernel_rfl) (by rfl)) r1 r1
     (cF rfl (o_storeS 2 .adr (by kernel_rfl) (by kernel_rfl)) r2 r1
     (cF rfl (o_nilCheck 2 .is (by rfl)) r1 r1
     (cF rfl (o_fieldAddr (off := 2) 2 .adr (by kernel_rfl) (by rfl)) r1 r1
     (cF rfl (o_storeS 2 .adr (by kernel_rfl) (by kernel_rfl)) r2 r1
     Chain.nil))))))))))))))))))))
     (by kernel_rfl) (by rw [hB]; kernel_rfl) ?_
   clear hS; intro a w F hS
   replace hS := hS.sub
   obtain ⟨F, hS⟩ := hS.norm [(4, _)] [(0, _), (2, _), (3, _), (4, _)] r1 r4
   try dsimp only [RS.sub, SF.sub, CF.sub, csub, Anc.sub, List.map, stCells, List.length_cons, List.length_nil, Nat.reduceAdd, List.drop_succ_cons, List.drop_zero, List.drop_nil, List.take_succ_cons, List.take_zero, List.take_nil, List.cons_append, List.nil_append, zCF, ldSF] at hS
   generalize Act.tau a 22 = v22 at hS
   generalize Act.tau a 28 = v28 at hS
   refine then_n ?_
   refine wp_seq ?_
   refine region_seq hS (by kernel_rfl)
     (cF rfl (o_assign .cb (by rfl)) trivial trivial
     Chain.nil)
     (by kernel_rfl) (by rw [hB]; kernel_rfl) ?_
   clear hS; intro a w F hS
   obtain ⟨F, hS⟩ := hS.norm [(4, _)] [(0, _), (2, _), (3, _), (4, _)] r1 r4
   refine then_n ?_
   refine wp_ret ?_
   have hS := hS.fresh 1 rfl
   obtain ⟨F, hS⟩ := hS.push 1 4 rfl rfl rfl (by kernel_rfl)
   obtain ⟨F, hS⟩ := hS.push 1 3 rfl rfl rfl (by kernel_rfl)
   obtain ⟨F, hS⟩ := hS.push 1 2 rfl rfl rfl (by kernel_rfl)
   have hS := hS.turn 1 rfl (r' := RS.hp (arenaH (.pointer (some ⟨b, 0, none⟩)) room (arCut q n))) (fun _ _ _ _ h => ⟨_, _, hI.cut n, by rw [hg]; exact h⟩)
   refine ret_G1 hG hS rfl (.tmp rfl .nil) (.one (.bool (by rw [hg']))) rfl
  simp at hc1

theorem refRoom_in (n : Int) : 0 ≤ refRoom n ∧ refRoom n ≤ 65536 := by unfold refRoom; split; (· omega); split <;> omega
theorem arOk_new (n : Int) : ArOk (refRoom n) [] := ⟨(refRoom_in n).1, (refRoom_in n).2, (refRoom_in n).1, fun i hi => absurd hi (Nat.not_lt_zero i)⟩
theorem refRoom_eq (n : Int) : (if 65536 < (if n < 0 then 0 else n) then 65536 else if n < 0 then 0 else n) = refRoom n := by unfold refRoom; split <;> split <;> (try split) <;> omega

theorem arNew_c (n : Int) : FnG Try.prog 29 1 [.int .i64 n] [.star []] (PV.ptr) (fun v => [arenaH v (refRoom n) []]) := by
  refine FnG.mk Try.func29 rfl Try.ntmps29 rfl (by kernel_rfl) ?_
  intro B F0 a w F hB hG hS
  have hr := refRoom_eq n
  refine wp_seq ?_
  refine region_seq hS (by kernel_rfl)
    (cF rfl (o_assign (.c rfl) (by rfl)) trivial trivial
    Chain.nil)
    (by kernel_rfl) (by rw [hB]; kernel_rfl) ?_
  clear hS; intro a w F hS
  obtain ⟨F, hS⟩ := hS.norm [(0, _), (2, _)] [(0, _), (1, _)] r2 r2
  refine then_n ?_
  refine wp_seq ?_
  refine region_seq hS (by kernel_rfl)
    (cF rfl (o_move .t (by rfl)) r1 trivial
    (cF rfl (o_max .t (.ci (by kernel_rfl))) r1 trivial
    (cF rfl (o_min .t (.ci (by kernel_rfl))) r1 trivial
    (cF rfl (o_build (r := [(0, .tmp 5)]) (zs := [.int .i64 0, .slice none 0 0, .slice none 0 0]) (pl := [(0, 1), (1, 1), (2, 1)]) (by kernel_rfl) (by kernel_rfl) (.one rfl .t one_int (by kernel_rfl) .nil) (by rfl)) r1 trivial
    (cF rfl (o_boxA 101 .t (by kernel_rfl)) r1 trivial
    (cF rfl (o_assign .t (by rfl)) r1 trivial
    Chain.nil))))))
    (by kernel_rfl) (by rw [hB]; kernel_rfl) ?_
  clear hS; intro a w F hS
  replace hS := hS.sub
  obtain ⟨F, hS⟩ := hS.norm [(2, _)] [(0, _), (1, _), (101, _)] r1 r3
  try dsimp only [RS.sub, SF.sub, CF.sub, csub, Anc.sub, List.map, stCells, List.length_cons, List.length_nil, Nat.reduceAdd, List.drop_succ_cons, List.drop_zero, List.drop_nil, List.take_succ_cons, List.take_zero, List.take_nil, List.cons_append, List.nil_append, zCF] at hS
  generalize Act.tau a 7 = v7 at hS
  refine then_n ?_
  refine wp_ret ?_
  obtain ⟨b, rfl⟩ := hS.shape 101 rfl
  have hS := hS.fresh 3 rfl
  have hS := hS.turn 3 rfl (nilRow (T := 220) (sz := 2) (R := rLinks))
  have hS := hS.fresh 4 rfl
  have hS := hS.turn 4 rfl (nilRow (T := 222) (sz := 4) (R := rRest))
  obtain ⟨F, hS⟩ := hS.push 1 4 rfl rfl rfl (by kernel_rfl)
  obtain ⟨F, hS⟩ := hS.push 1 3 rfl rfl rfl (by kernel_rfl)
  obtain ⟨F, hS⟩ := hS.push 1 101 rfl rfl rfl (by kernel_rfl)
  have hS := hS.turn 1 rfl (r' := RS.hp (arenaH (.pointer (some ⟨b, 0, none⟩)) (refRoom n) [])) (fun _ _ _ _ h => ⟨_, _, arOk_new n, by rw [← hr]; exact h⟩)
  refine ret_N1 (h' := fun v => arenaH v (refRoom n) []) hG hS rfl (.tmp rfl .nil) (.one .ptr) rfl

end Go.Proofs.Ytdfidiehkkbimaa
