/- What the laws of stage 4 ask first. No condition beyond those that each theorem says. -/
import Derived.Test.YtdfidiehkkbimaaFf1
import Derived.Test.YtdfidiehkkbimaaAvA
namespace Go.Proofs.Ytdfidiehkkbimaa
open Go Go.Gm
set_option linter.unusedVariables false
set_option linter.unusedSimpArgs false
set_option maxHeartbeats 4000000
set_option maxRecDepth 8000


theorem arNamed_open {b : Nat} {room : Int} {q : List Cell} {w : World} {f y : Ys} (h : (HP.named (fun b => arV (some b)) (fun b => arH (some b) room q) (arV (some b))).p w f y) : (arH (some b) room q).p w f y := by
  obtain ⟨b', e, h⟩ := h
  have e2 : b = b' := by simpa [arV] using e
  subst e2; exact h
theorem arNamed_ptr {v : Value} {room : Int} {q : List Cell} {w : World} {f y : Ys} (h : (HP.named (fun b => arV (some b)) (fun b => arH (some b) room q) v).p w f y) : ∃ b, v = arV (some b) := by
  obtain ⟨b, e, _⟩ := h
  exact ⟨b, e⟩
theorem aNew_c (n room : Int) (hr : refRoom n = room) : FnG Try.prog 29 1 [.int .i64 n] [.star []] PV.ptr (fun v => [HP.named (fun b => arV (some b)) (fun b => arH (some b) room []) v]) := by
  subst hr
  exact FnG.newNamed (arNew_c n) fun v w f y h => by obtain ⟨b, rfl⟩ := arenaH_ptr h; exact ⟨b, rfl, h⟩

theorem qH_ptr {v : Value} {room : Int} {l : List Int} {w : World} {f y : Ys} (h : (qH v room l).p w f y) : ∃ b, v = .pointer (some ⟨b, 0, none⟩) := by
  obtain ⟨rv, c, _, g⟩ := h
  exact HP.star_pt g
theorem stH_ptr {v : Value} {room : Int} {l : List Int} {w : World} {f y : Ys} (h : (stH v room l).p w f y) : ∃ b, v = .pointer (some ⟨b, 0, none⟩) := by
  obtain ⟨rv, g⟩ := h
  exact HP.star_pt g
def tc1 : Cell := ⟨0, 0, 1, 2, 1, 1⟩
def tc2 : Cell := ⟨0, 0, 0, 7, 1, 1⟩
def tc3 : Cell := ⟨2, 0, 0, 8, 2, 2⟩
def tq : List Cell := [tc1, tc2, tc3]
def tt : Tree := .node (.node .nil ⟨0, 7⟩ .nil) ⟨0, 8⟩ .nil
theorem t_put : putM 40 [] ⟨1, 2⟩ .nil 0 = ([tc1], 0, 1) := by decide +kernel
theorem t_of : qOfM 40 [tc1] [7, 8] = (tq, 0, 3) := by decide +kernel
theorem t_leaf {q : List Cell} {i v : Int} (h0 : 1 ≤ i ∧ i ≤ q.length) (h : getC q i = ⟨0, 0, 0, v, 1, 1⟩) : Rep kz q (.node .nil ⟨0, v⟩ .nil) i := ⟨by omega, by rw [h]; rfl, by rw [h]; rfl, by rw [h], rfl, by rw [h], by rw [h]; rfl, by rw [h]; rfl⟩
theorem t_two {q : List Cell} {i v l lv : Int} (h0 : 1 ≤ i ∧ i ≤ q.length) (h : getC q i = ⟨l, 0, 0, v, 2, 2⟩) (hl : Rep kz q (.node .nil ⟨0, lv⟩ .nil) l) : Rep kz q (.node (.node .nil ⟨0, lv⟩ .nil) ⟨0, v⟩ .nil) i := ⟨by omega, by rw [h]; exact hl, by rw [h]; rfl, by rw [h], rfl, by rw [h], by rw [h]; rfl, by rw [h]; rfl⟩
theorem t_rep : Rep kz tq tt 3 := t_two (by decide) (by decide) (t_leaf (i := 2) (by decide) (by decide))
abbrev tM (o : Option Nat) (root : Int) : PV := .agg [.is (arV o), .int .i64 root]
section
variable (b : Nat)
theorem tPut : FnG Try.prog 39 1 [tM (some b) 0, .int .i64 1, .int .i64 2] [arH (some b) 40 []] (.tup [tM (some b) 1, .int .i64 0]) (fun _ => [arH (some b) 40 [tc1]]) := by
  have := mPut_c (some b) 40 [] 0 1 2 .nil rfl
  rw [t_put] at this; exact this
theorem tOf : FnG Try.prog 75 1 [.is (arV (some b)), .sl rInt [7, 8]] [arH (some b) 40 [tc1]] (.tup [tM (some b) 3, .int .i64 0]) (fun _ => [arH (some b) 40 tq]) := by
  have := sOf_c (some b) 40 [tc1] [7, 8]
  rw [t_of] at this; exact this
theorem tAt : FnG Try.prog 76 1 [tM (some b) 3, .int .i64 1] [arH (some b) 40 tq] (.tup [.int .i64 8, .bool true]) (fun _ => [arH (some b) 40 tq]) := sAt_c (some b) 40 tq 3 1 tt t_rep (by decide)
theorem tLen : FnG Try.prog 77 1 [tM (some b) 1] [arH (some b) 40 tq] (.int .i64 1) (fun _ => [arH (some b) 40 tq]) := mlen_c (some b) 40 tq 1
end
theorem seq_of2 {room : Int} {q : List Cell} {l : List Int} (hs : l.length ≤ 1000000) :
    (∃ (e : List Cell) (r : Int), qOfM room q l = (q ++ e, 0, r) ∧ SeqOk (q ++ e) (allT (l.length + 1) (l.map kp)) r ∧ e.length = l.length) ∨ (qOfM room q l = (q, 2, 0) ∧ room < q.length + l.length) := by
  have e : qOfM room q l = toldM q.length (allQ room (l.length + 1) q 0 l) := rfl
  rw [e, allQ_eq]
  rcases told_split (allS_good (kf := kz) (room := room) (l.length + 1) q (l.map kp) (by simp) (by simpa using hs) (fun p hp => by obtain ⟨x, _, rfl⟩ := List.mem_map.1 hp; rfl)) (allT_high _ _ (by simp)).2 with ⟨e, r, h1, h2, h3, h4⟩ | ⟨h1, h2⟩
  · rw [List.length_map] at h3 h4
    exact .inl ⟨e, r, h1, h2, by omega⟩
  · exact .inr ⟨h1, by simpa using h2⟩
theorem ins_front {l : List Int} {x : Int} : insL l 0 x = x :: l := by unfold insL; rw [if_pos (by omega)]; rfl
theorem ins_end {l : List Int} {x : Int} : insL l l.length x = l ++ [x] := by unfold insL; rw [if_pos (by omega)]; simp
theorem push_room {room : Int} {l : List Int} (h : (l.length : Int) < room) (x : Int) : pushW room l = 0 ∧ pushL room l x = l ++ [x] := ⟨if_neg (by omega), if_neg (by omega)⟩

theorem begins04_c  : FnP Try.prog 25 [] (.bool true) := by
  refine FnP.mk Try.func25 rfl Try.ntmps25 rfl ?_
  intro B a w F hB hfr hS
  refine wp_seq ?_
  refine region_q hS
    (cF rfl (oN .cb) trivial trivial
    Chain.nil)
    hB ?_
  clear hS; intro a w F hS
  obtain ⟨F, hS⟩ := hS.nm [0] [0] rfl rfl
  try dsimp only [rInt, rPair] at hS
  refine then_n (wp_seq ?_)
  replace hS := hS.fresh 101 rfl
  refine region_q hS
    (cF rfl (o_callN 101 (aNew_c 40 40 (by decide)) Try.func29 rfl (by kernel_rfl) (Args.one (.ci (by kernel_rfl))) PV.ptr_one) trivial r1
    (cF rfl (oN .t) r1 trivial
    Chain.nil))
    hB ?_
  clear hS; intro a w F hS
  replace hS := hS.sub
  obtain ⟨F, hS⟩ := hS.nm [1, 0] [101, 0] rfl rfl
  try dsimp only [RS.sub, SF.sub, CF.sub, csub, Anc.sub, List.map, rInt, rPair] at hS
  generalize Act.tau a 9 = v9 at hS
  obtain ⟨_, _, _, ho⟩ := hS.obGet 101 rfl
  obtain ⟨b, rfl⟩ := arNamed_ptr ho
  clear ho
  replace hS := hS.turn 101 rfl (r' := RS.hp (arH (some b) 40 [])) (fun _ _ _ _ h => arNamed_open h)
  obtain ⟨F, hS⟩ := hS.nm [1, 0] [101, 0] rfl rfl
  refine then_n (wp_seq (wp_seq ?_))
  refine region_q hS
    (cF rfl (oM .t) r1 trivial
    (cF rfl (o_nil_eql _ Try.underlying66 rfl .t) r1 trivial
    Chain.nil))
    hB ?_
  clear hS; intro a w F hS
  obtain ⟨F, hS⟩ := hS.nm [11, 1, 0] [101, 0] rfl rfl
  try dsimp only [rInt, rPair] at hS
  refine then_n ?_
  refine cond_b hS rfl (fun hc0 => ?_) (fun hc0 => ?_)
  ·skip
   simp at hc0
  refine wp_skip (then_n (wp_seq ?_))
  refine region_q hS
    (cF rfl (oM .t) r1 trivial
    (cF rfl (oP (mnew_c (some b)) Try.func38 (Args.one .t)) r1 trivial
    (cF rfl (o_callG1 101 (tPut b) Try.func39 rfl (by kernel_rfl) (Args.three .t (.ci (by kernel_rfl)) (.ci (by kernel_rfl)))) r1 r1
    (cF rfl (oM .t) r1 trivial
    (cF rfl (o_extract .t rfl) r1 trivial
    (cF rfl (o_extract .t rfl) r1 trivial
    (cF rfl (oH [.pointer none, .int .i64 0] 102) trivial trivial
    (cF rfl (oA 2 102 .same (.conv .t .agg)) r2 r1
    (cF rfl (oN .t) r1 trivial
    Chain.nil)))))))))
    hB ?_
  clear hS; intro a w F hS
  replace hS := hS.sub
  obtain ⟨F, hS⟩ := hS.nm [3, 2, 1, 0] [102, 101, 0] rfl rfl
  try dsimp only [RS.sub, SF.sub, CF.sub, csub, Anc.sub, List.map, stCells, xL, xM, Nat.reduceAdd, xD, xE, xT, xU, xC, xN, zCF, rInt, rPair] at hS
  generalize Act.tau a 2 = v2 at hS
  refine then_n (wp_seq ?_)
  refine region_q hS
    (cF rfl (oM .t) r1 trivial
    (cF rfl (o_buildSliceE (sz := 1) (zs := [.int .i64 0]) (r := [(0, _), (1, _)]) (l := [_, _]) Try.underlying61 (by kernel_rfl) (by kernel_rfl) (by kernel_rfl) (by kernel_rfl) rfl rfl (.one rfl (.ci (by kernel_rfl)) one_int (by kernel_rfl) (.one rfl (.ci (by kernel_rfl)) one_int (by kernel_rfl) .nil)) rfl) trivial trivial
    (cF rfl (o_callG1 101 (tOf b) Try.func75 rfl (by kernel_rfl) (Args.two .t (.conv .t (Ent.arrSl (R := rInt) (l := [7, 8]) rfl)))) r2 r1
    (cF rfl (oM .t) r1 trivial
    (cF rfl (o_extract .t rfl) r1 trivial
    (cF rfl (o_extract .t rfl) r1 trivial
    (cF rfl (oH [.pointer none, .int .i64 0] 103) trivial trivial
    (cF rfl (oA 2 103 .same (.conv .t .agg)) r2 r1
    (cF rfl (oN .t) r1 trivial
    Chain.nil)))))))))
    hB ?_
  clear hS; intro a w F hS
  replace hS := hS.sub
  obtain ⟨F, hS⟩ := hS.nm [5, 4, 3, 2, 0] [103, 102, 101, 0] rfl rfl
  try dsimp only [RS.sub, SF.sub, CF.sub, csub, Anc.sub, List.map, stCells, xL, xM, Nat.reduceAdd, xD, xE, xT, xU, xC, xN, zCF, rInt, rPair] at hS
  generalize Act.tau a 4 = v4 at hS
  refine then_n (wp_seq ?_)
  refine region_q hS
    (cF rfl (oL true 2 103 .is) r1 r1
    (cF rfl (o_callG1 101 (tAt b) Try.func76 rfl (by kernel_rfl) (Args.two (.pagg .t) (.ci (by kernel_rfl)))) r1 r1
    (cF rfl (oM .t) r1 trivial
    (cF rfl (o_extract .t rfl) r1 trivial
    (cF rfl (o_extract .t rfl) r1 trivial
    (cF rfl (oN .t) r1 trivial
    (cF rfl (oN .t) r1 trivial
    Chain.nil)))))))
    hB ?_
  clear hS; intro a w F hS
  obtain ⟨F, hS⟩ := hS.nm [7, 6, 5, 3, 2, 0] [102, 101, 0] rfl rfl
  try dsimp only [List.map, xD, xE, xT, xU, ldSF, rInt, rPair] at hS
  refine then_n (wp_seq ?_)
  replace hS := hS.fresh 104 rfl
  refine region_q hS
    (cF rfl (o_callN 104 (qnew_c 1) Try.func26 rfl (by kernel_rfl) (Args.one (.ci (by kernel_rfl))) PV.ptr_one) trivial r1
    (cF rfl (oN .t) r1 trivial
    Chain.nil))
    hB ?_
  clear hS; intro a w F hS
  replace hS := hS.sub
  obtain ⟨F, hS⟩ := hS.nm [8, 7, 6, 5, 3, 2, 0] [104, 102, 101, 0] rfl rfl
  try dsimp only [RS.sub, SF.sub, CF.sub, csub, Anc.sub, List.map, rInt, rPair] at hS
  generalize Act.tau a 29 = v29 at hS
  obtain ⟨_, _, _, ho⟩ := hS.obGet 104 rfl
  obtain ⟨b2, rfl⟩ := qH_ptr ho
  clear ho
  replace hS := hS.turn 104 rfl (r' := RS.hp (qH (.pointer (some ⟨b2, 0, none⟩)) (within 1) [])) (fun _ _ _ _ h => h)
  obtain ⟨F, hS⟩ := hS.nm [8, 7, 6, 5, 3, 2, 0] [104, 102, 101, 0] rfl rfl
  refine then_n (wp_seq ?_)
  refine region_q hS
    (cF rfl (oM .t) r1 trivial
    (cF rfl (o_eql .t (.ci (by kernel_rfl))) r1 trivial
    (cF rfl (oM .t) r1 trivial
    (Chain.cons (Cert.run rfl rfl ((by rfl)) (o_move .t (by rfl))) r2 trivial
    (Chain.cons (Cert.run rfl rfl ((by rfl)) (o_eql .t (.ci (by kernel_rfl)))) r2 trivial
    (cF rfl (o_and2 .t (.conv .t (Ent.sure (by rfl)))) r2 trivial
    (cF rfl (oM .t) r1 trivial
    (Chain.cons (Cert.run rfl rfl ((by rfl)) (oL true 2 102 .is)) r2 r1
    (Chain.cons (Cert.run rfl rfl ((by rfl)) (o_callG1 101 (tLen b) Try.func77 rfl (by kernel_rfl) (Args.one (.pagg .t)))) r2 r1
    (Chain.cons (Cert.run rfl rfl ((by rfl)) (o_eql .t (.ci (by kernel_rfl)))) r2 trivial
    (cF rfl (o_and2 .t (.conv .t (Ent.sure (by rfl)))) r2 trivial
    (cF rfl (oM .t) r1 trivial
    (Chain.cons (Cert.run rfl rfl ((by rfl)) (o_move .t (by rfl))) r2 trivial
    (Chain.cons (Cert.run rfl rfl ((by rfl)) (o_eql .t (.ci (by kernel_rfl)))) r2 trivial
    (cF rfl (o_and2 .t (.conv .t (Ent.sure (by rfl)))) r2 trivial
    (cF rfl (oM .t) r1 trivial
    (Chain.cons (Cert.run rfl rfl ((by rfl)) (o_move .t (by rfl))) r2 trivial
    (cF rfl (o_and2 .t (.conv .t (Ent.sure (by rfl)))) r2 trivial
    (cF rfl (oM .t) r1 trivial
    (Chain.cons (Cert.run rfl rfl ((by rfl)) (o_move .t (by rfl))) r2 trivial
    (Chain.cons (Cert.run rfl rfl ((by rfl)) (o_nil_neq _ Try.underlying62 rfl .t)) r2 trivial
    (cF rfl (o_and2 .t (.conv .t (Ent.sure (by rfl)))) r2 trivial
    (cF rfl (oM .t) r1 trivial
    (Chain.cons (Cert.run rfl rfl ((by rfl)) (o_move .t (by rfl))) r2 trivial
    (Chain.cons (Cert.run rfl rfl ((by rfl)) (o_callG1 104 (qpush_c b2 (within 1) [] 1) Try.func31 rfl (by kernel_rfl) (Args.two .t (.ci (by kernel_rfl))))) r2 r1
    (Chain.cons (Cert.run rfl rfl ((by rfl)) (o_eql .t (.ci (by kernel_rfl)))) r2 trivial
    (cF rfl (o_and2 .t (.conv .t (Ent.sure (by rfl)))) r2 trivial
    (cF rfl (oM .t) r1 trivial
    (Chain.cons (Cert.run rfl rfl ((by rfl)) (o_move .t (by rfl))) r2 trivial
    (Chain.cons (Cert.run rfl rfl ((by rfl)) (o_callG1 104 (qpush_c b2 (within 1) (pushL (within 1) [] 1) 2) Try.func31 rfl (by kernel_rfl) (Args.two .t (.ci (by kernel_rfl))))) r2 r1
    (Chain.cons (Cert.run rfl rfl ((by rfl)) (o_eql .t (.ci (by kernel_rfl)))) r2 trivial
    (cF rfl (o_and2 .t (.conv .t (Ent.sure (by rfl)))) r2 trivial
    (cF rfl (oN .t) r1 trivial
    Chain.nil)))))))))))))))))))))))))))))))))
    hB ?_
  clear hS; intro a w F hS
  obtain ⟨F, hS⟩ := hS.nm [0] [104, 101, 0] rfl rfl
  try dsimp only [List.map, xD, xE, xT, xU, ldSF, rInt, rPair] at hS
  refine then_n (wp_ret ?_)
  refine ret_P hfr hS rfl (.tmp rfl .nil) (.one (.bool (by rfl)))

end Go.Proofs.Ytdfidiehkkbimaa
