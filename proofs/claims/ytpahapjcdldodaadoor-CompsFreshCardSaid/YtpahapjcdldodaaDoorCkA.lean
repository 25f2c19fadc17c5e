/- The closure: look. No condition beyond those that each theorem says. -/
import Derived.Test.YtpahapjcdldodaaDoorCk9
namespace Go.Proofs.YtpahapjcdldodaaDoor
open Go Go.Gm
set_option linter.unusedVariables false
set_option linter.unusedSimpArgs false
set_option maxHeartbeats 4000000
set_option maxRecDepth 8000


def dropL (F : Fp) (ns : List Nat) : Fp := fun m => if m ∈ ns then fun _ => False else F m
theorem dropL_le (F : Fp) (ns : List Nat) : ∀ b, U (dropL F ns) b → U F b := fun b ⟨m, hm⟩ => ⟨m, by
  unfold dropL at hm
  by_cases e : m ∈ ns
  · simp only [e, if_true] at hm
  · simp only [e, if_false] at hm; exact hm⟩
def notIns (ns : List Nat) (c : CD) : Bool := c.pr.all (fun x => !decide (x.1 ∈ ns)) && c.qr.all (fun x => !decide (x.1 ∈ ns))
/-- An operation that is told of many things as one fact, run by their owner. -/
theorem OpC.lendL {P : Program} {o : Oper} {ps : List (Nat × SF)} {pr qr ls : List (Nat × RS)} {q : SF} (is : List Nat) {v : Value} {pv : PV}
    (hl : ∀ (τ : Tau) (w : World) (F : Fp) (y' : Ys), (∀ x ∈ ls, x.2.holds τ w (F x.1) (U F)) → (∀ b, y' b → U F b) → (∀ x ∈ ls, ∀ b, F x.1 b → ¬ y' b) → (∀ x ∈ ls, ∀ b, F x.1 b → b < w.heap.size) → pv.p v w y')
    (hc : Go.Gm.OpC P o ⟨ps, pr, q, qr⟩) (hk : LentOk is pv ps) (hq : Free q) (hqr : ∀ x ∈ qr, ∀ (τ τ0 : Tau) (w : World) (F : Fp) (w' : World) (f y1 y' : Ys), (∀ z ∈ ls, z.2.holds τ0 w (F z.1) (U F)) → Ev w (U F) w' y' → x.2.holds τ w' f y1 → x.2.holds τ w' f y')
    (hst : ∀ x ∈ ls, x.2.deps = []) (hni : notIns (ls.map (·.1)) ⟨ps, pr, q, qr⟩ = true) :
    Go.Gm.OpC P o ⟨lendPs is v ps, ls ++ pr, q, qr⟩ := fun a w F K Q hw hp hr ht => by
  obtain ⟨ns, hns⟩ : ∃ ns, ns = ls.map (·.1) := ⟨_, rfl⟩
  rw [← hns] at hni
  have hin : ∀ x ∈ ls, x.1 ∈ ns := fun x hx => by rw [hns]; exact List.mem_map.2 ⟨x, hx, rfl⟩
  have hle := dropL_le F ns
  have hev := Ev.less w hle
  simp only [notIns, Bool.and_eq_true, List.all_eq_true, Bool.not_eq_true', decide_eq_false_iff_not] at hni
  have hn1 : ∀ x ∈ pr, x.1 ∉ ns := hni.1
  have hn2 : ∀ x ∈ qr, x.1 ∉ ns := hni.2
  have hW : ∀ l ∈ ns, l ∉ CD.W ⟨ps, pr, q, qr⟩ := by
    intro l hl hm
    obtain ⟨x, hx, e⟩ := List.mem_map.1 hm
    exact hn2 x hx (e ▸ hl)
  have hh : ∀ x ∈ ls, x.2.holds (Act.tau a) w (F x.1) (U F) := fun x hx => hr x (List.mem_append_left _ hx)
  have hsame : ∀ m, m ∉ ns → dropL F ns m = F m := fun m hm => by unfold dropL; rw [if_neg hm]
  have hdl : ∀ m ∈ ns, ∀ b, ¬ dropL F ns m b := fun m hm b hb => by unfold dropL at hb; simp only [hm, if_true] at hb
  have hpv : pv.p v w (U (dropL F ns)) := hl (Act.tau a) w F _ hh hle (fun x hx b hb ⟨m, hm⟩ => by
    by_cases e : m ∈ ns
    · exact hdl m e b hm
    · rw [hsame m e] at hm; exact e (hw.dis x.1 m b hb hm ▸ hin x hx)) (fun x hx b hb => hw.bd x.1 b hb)
  refine hc a w (dropL F ns) K Q ⟨fun n m b hn hm => ?_, fun n b hn => ?_⟩ (lendPs_get hpv hle hk hp) (fun x hx => ?_) ?_
  · by_cases e1 : n ∈ ns
    · exact absurd hn (hdl n e1 b)
    · by_cases e2 : m ∈ ns
      · exact absurd hm (hdl m e2 b)
      · rw [hsame n e1] at hn; rw [hsame m e2] at hm; exact hw.dis n m b hn hm
  · obtain ⟨m, hm⟩ := hle b ⟨n, hn⟩
    exact hw.bd m b hm
  · have := hr x (List.mem_append_right _ hx)
    rw [hsame x.1 (hn1 x hx)]
    exact RS.mono hev (fun _ _ => rfl) (fun _ _ => rfl) this
  · intro u w' F' hwf' hst2 hqh hqrh
    have hF'l : ∀ l ∈ ns, ∀ b, ¬ F' l b := fun l hl b hb => by rw [hst2.fkeep l (hW l hl)] at hb; exact hdl l hl b hb
    have hout : ∀ n, n ∉ ns → ∀ l ∈ ns, ∀ b, F' n b → ¬ F l b := by
      intro n hn l hl b hb hbl
      by_cases e : n ∈ CD.W ⟨ps, pr, q, qr⟩
      · rcases hst2.fnew n e b hb with ⟨m, hm, hmb⟩ | hge
        · have hml : m ∉ ns := fun e => hW m e hm
          rw [hsame m hml] at hmb
          exact hml (hw.dis m l b hmb hbl ▸ hl)
        · exact absurd (hw.bd l b hbl) (by omega)
      · rw [hst2.fkeep n e, hsame n hn] at hb
        exact hn (hw.dis n l b hb hbl ▸ hl)
    have hst3 : Stp (CD.W ⟨lendPs is v ps, ls ++ pr, q, qr⟩) w F w' (fun m => if m ∈ ns then F m else F' m) := by
      refine ⟨hst2.os, hst2.tape, hst2.output, hst2.size, fun b hb hn => ?_, fun n hn => ?_, fun n hn b hb => ?_⟩
      · refine hst2.keep b hb (fun n hn' => ?_)
        by_cases e : n ∈ ns
        · exact hdl n e b
        · rw [hsame n e]; exact hn n hn'
      · by_cases e : n ∈ ns
        · simp only [e, if_true]
        · simp only [e, if_false]
          have := hst2.fkeep n hn
          rw [this, hsame n e]
      · have hnl : n ∉ ns := fun e => hW n e hn
        simp only [hnl, if_false] at hb
        rcases hst2.fnew n hn b hb with ⟨m, hm, hmb⟩ | hge
        · have hml : m ∉ ns := fun e => hW m e hm
          exact .inl ⟨m, hm, by rw [hsame m hml] at hmb; exact hmb⟩
        · exact .inr hge
    refine ht u w' (fun m => if m ∈ ns then F m else F' m) ⟨fun n m b hn hm => ?_, fun n b hn => ?_⟩ hst3 (hq _ _ _ _ _ hqh) (fun x hx => ?_)
    · by_cases e1 : n ∈ ns <;> by_cases e2 : m ∈ ns <;> simp only [e1, e2, if_true, if_false] at hn hm
      · exact hw.dis n m b hn hm
      · exact absurd hn (hout m e2 n e1 b hm)
      · exact absurd hm (hout n e1 m e2 b hn)
      · exact hwf'.dis n m b hn hm
    · by_cases e1 : n ∈ ns <;> simp only [e1, if_true, if_false] at hn
      · exact Nat.lt_of_lt_of_le (hw.bd n b hn) hst2.size
      · exact hwf'.bd n b hn
    · have := hqrh x hx
      have e : (fun m => if m ∈ ns then F m else F' m) x.1 = F' x.1 := if_neg (hn2 x hx)
      rw [e]
      exact hqr x hx _ _ _ _ _ _ _ _ hh hst3.ev this
/-- Rows that are only read. -/
def rSet (n : Nat) (x : List Int) : List PV := [setR n x]
def nextsQ (q : List PairD) (n : Nat) : List (List Int) := (List.range n).map fun k : Nat => nextQ q n (k : Int)
theorem nextsQ_len (q : List PairD) (n : Nat) : (nextsQ q n).length = n := by unfold nextsQ; rw [List.length_map, List.length_range]
theorem nextsQ_nth {q : List PairD} {n k : Nat} (h : k < n) : Go.Gm.nth (nextsQ q n) k = nextQ q n (k : Int) := by
  rw [nth_eq (by rw [nextsQ_len]; exact h)]
  simp [nextsQ]
theorem FnG.ofTab {f : FuncId} {args : List PV} {q : PV} {qr : Value → List HP} {n : Nat} {x : List Int} (hc : FnG Tryd.prog f 1 (setR n x :: args) [gH tabP tabV] q qr) : FnG Tryd.prog f 1 (setR n x :: args) [HP.star []] q qr := fun w F vs hw hle hvs hpr => by
  refine hc w F vs hw hle hvs fun i k hi => ?_
  match i, hi with
  | 0, hi =>
    simp at hi; subst hi
    match vs, hvs with
    | u :: us, hvs => exact ⟨fun b hb => (hpr 0 _ rfl : stars w (U F) [] (F 1)) b hb, hvs.1.2⟩

theorem listN_c (n : Nat) (x : List Int) : FnG Tryd.prog 54 1 [setR n x] [.star []] (PV.one) (fun v => [rowH 3 1 rInt x v]) := by
  refine FnG.mk Tryd.func54 rfl Tryd.ntmps54 rfl (by kernel_rfl) ?_
  intro B F0 a w F hB hG hS
  obtain ⟨F, hS⟩ := hS.nm [0] [0] rfl rfl
  have hup := Sat.setRup hS (i := 0) rfl
  have hlen := hup.2.len
  refine wp_seq ?_
  refine region_q hS
    (cF rfl (oN (.c rfl)) trivial trivial
    Chain.nil)
    hB ?_
  clear hS; intro a w F hS
  obtain ⟨F, hS⟩ := hS.nm [2, 0] [0] rfl rfl
  refine then_n (wp_seq ?_)
  refine region_q hS
    (cF rfl (oN (.c rfl)) trivial trivial
    Chain.nil)
    hB ?_
  clear hS; intro a w F hS
  obtain ⟨F, hS⟩ := hS.nm [3, 2, 0] [0] rfl rfl
  refine then_n (wp_seq (wp_seq ?_))
  refine region_q hS
    (cF rfl (oM .t) r1 trivial
    (cF rfl (oP (next_c n x 0) Tryd.func72 (Args.two .t (.ci (by kernel_rfl)))) r1 trivial
    (cF rfl (oN .t) r1 trivial
    Chain.nil)))
    hB ?_
  clear hS; intro a w F hS
  obtain ⟨F, hS⟩ := hS.nm [4, 3, 2, 0] [0] rfl rfl
  rw [nextL_first hup.2] at hS
  refine then_n (wp_block ?_)
  replace hS := hS.fresh 50 rfl
  replace hS := hS.turn 50 rfl (nilRow (T := 3) (sz := 1) (R := rInt))
  refine loop_keep (σ := Nat × Value) [0, 2] [0] (fun s => [(3, .pv (.is s.2)), (4, .pv (.int .i64 (curL x s.1)))]) (fun s => [(50, .ob (.val s.2) (rowH 3 1 rInt (x.take s.1)))]) (fun s => s.1 ≤ x.length) (fun s => x.length - s.1) ((0), (.slice none 0 0)) hS ⟨rfl, rfl, rfl, rfl, trivial⟩ ⟨rfl, rfl, trivial⟩ (Nat.zero_le _) ?_
  clear hS; intro s a w F hC hS
  obtain ⟨k, v⟩ := s
  try dsimp only at hC
  obtain ⟨F, hS⟩ := hS.nm [4, 3, 2, 0] [50, 0] rfl rfl
  try dsimp only at hS
  have hk : k ≤ x.length := hC
  refine wp_seq (wp_seq ?_)
  refine region_q hS
    (cF rfl (oM .t) r1 trivial
    (cF rfl (o_geq .t (.ci (by kernel_rfl))) r1 trivial
    Chain.nil))
    hB ?_
  clear hS; intro a w F hS
  obtain ⟨F, hS⟩ := hS.nm [8, 7, 4, 3, 2, 0] [50, 0] rfl rfl
  refine then_n ?_
  refine cond_b hS rfl (fun hc0 => ?_) (fun hc0 => ?_)
  ·skip
   have hkl : k < x.length := (curL_pos hup.2).1 (by simpa using hc0)
   rw [show curL x k = Go.Gm.nth x k from if_pos hkl] at hS
   have hxk := hup.2.2 _ (nth_mem hkl)
   refine wp_skip (then_n (wp_seq (wp_block ?_)))
   refine region_q hS
     (cF rfl (oM .t) r1 trivial
     (cF rfl (oM .t) r1 trivial
     (cF rfl (o_buildSliceE (sz := 1) (zs := [.int .i64 0]) (r := [(0, .tmp 14)]) (l := [_]) Tryd.underlying30 (by kernel_rfl) (by kernel_rfl) (by kernel_rfl) (by kernel_rfl) rfl rfl (.one rfl .t one_int (by kernel_rfl) .nil) rfl) r1 trivial
     (cF rfl (o_append (sz := 1) (bs := 8) 50 (.mk' Tryd.underlying30 (by kernel_rfl) (by kernel_rfl)) (by intro x; rfl) .is (.arr (l' := [Go.Gm.nth x k]) .t) (by simp only [List.length_take, List.length_cons, List.length_nil]; omega) (by decide)) ⟨rfl, rfl, trivial⟩ ⟨rfl, trivial⟩
     (cF rfl (oN .t) r1 trivial
     Chain.nil)))))
     hB ?_
   clear hS; intro a w F hS
   replace hS := hS.sub
   obtain ⟨F, hS⟩ := hS.nm [16, 15, 14, 13, 8, 7, 4, 3, 2, 0] [50, 0] rfl rfl
   try dsimp only [RS.sub, SF.sub, CF.sub, csub, Anc.sub, List.map, stCells, xL, xM, Nat.reduceAdd, xD, xE, xT, xU, xC, xN, zCF] at hS
   generalize Act.tau a 16 = v16 at hS
   refine block_n (then_n ?_)
   refine region_q hS
     (cF rfl (oM .t) r1 trivial
     (cF rfl (oM .t) r1 trivial
     (cF rfl (o_add .t (.ci (by kernel_rfl))) r1 trivial
     (cF rfl (oP (next_c n x _) Tryd.func72 (Args.two .t .t)) r2 trivial
     (cF rfl (oN .t) r1 trivial
     Chain.nil)))))
     hB ?_
   clear hS; intro a w F hS
   obtain ⟨F, hS⟩ := hS.nm [16, 15, 14, 13, 12, 11, 10, 9, 8, 7, 4, 3, 2, 0] [50, 0] rfl rfl
   rw [wrap_i64 (by omega), nextL_step hup.2 hkl] at hS
   refine then_n ?_
   rw [take_next hkl] at hS
   obtain ⟨F, hS⟩ := hS.nm [2, 0, 4, 3] [0, 50] rfl rfl
   exact ⟨((k + 1), _), F, (by show k + 1 ≤ x.length; omega), hS, (by show x.length - (k + 1) < x.length - k; omega)⟩
  have hkl : k = x.length := by have := (not_congr (curL_pos hup.2)).1 (by simpa using hc0); omega
  rw [hkl, List.take_length] at hS
  have hg : x = x := rfl
  refine wp_exit (then_x (then_x (block_x (then_n (wp_seq ?_)))))
  refine region_q hS
    (cF rfl (oM .t) r1 trivial
    (cF rfl (oN .t) r1 trivial
    Chain.nil))
    hB ?_
  clear hS; intro a w F hS
  obtain ⟨F, hS⟩ := hS.nm [2] [50, 0] rfl rfl
  refine then_n (wp_ret ?_)
  obtain ⟨F, hS⟩ := hS.rename 50 1 rfl rfl
  have hS := hS.turn 1 rfl (r' := RS.hp (rowH 3 1 rInt x v)) (fun _ _ _ _ h => by rw [hg]; exact h)
  refine ret_N1 (h' := fun v => rowH 3 1 rInt x v) hG hS rfl (.tmp rfl .nil) (.one .one) rfl

theorem look_c (n : Nat) (q : List PairD) (X : Nat) (hX : X < n) (hhi : n ≤ 4096) (hinn : InN n q) : FnG Tryd.prog 51 1 [.ref [.any, .sl (rSet n) (nextsQ q n), .any, .any], .int .i64 (X : Int)] [HP.star []] (PV.ptr) (fun v => [setH v n (reachQ q (X : Int))]) := by
  refine FnG.mk Tryd.func51 rfl Tryd.ntmps51 rfl (by kernel_rfl) ?_
  intro B F0 a w F hB hG hS
  have hnx := nextsQ_len q n
  refine wp_seq ?_
  refine region_q hS
    (cF rfl (oN (.c rfl)) trivial trivial
    Chain.nil)
    hB ?_
  clear hS; intro a w F hS
  obtain ⟨F, hS⟩ := hS.nm [4, 1, 0] [1, 0] rfl rfl
  try dsimp only [rSet, rInt] at hS
  refine then_n (wp_seq ?_)
  refine region_q hS
    (cF rfl (oM .t) r1 trivial
    (cF rfl (o_nilCheck_ref .t) r1 trivial
    (cF rfl (oG 1 .t) r1 trivial
    (cF rfl (oR false 1 .t) r1 trivial
    (cF rfl (oM .t) r1 trivial
    (cF rfl (o_indexAddr_sl (sz := 1) (.mk Tryd.underlying69 (by kernel_rfl)) (by intro x; rfl) .t .t (by omega) (by rw [nextsQ_len]; omega)) r2 trivial
    (cF rfl (oR false 1 .t) r1 trivial
    (cF rfl (o_callN 1 (FnG.ofTab (copy_c n (Go.Gm.nth (nextsQ q n) X))) Tryd.func48 rfl (by kernel_rfl) (Args.one .t) PV.ptr_one) r1 r1
    (cF rfl (oN .t) r1 trivial
    Chain.nil)))))))))
    hB ?_
  clear hS; intro a w F hS
  replace hS := hS.sub
  obtain ⟨F, hS⟩ := hS.nm [5, 4, 1, 0] [1, 0] rfl rfl
  try dsimp only [RS.sub, SF.sub, CF.sub, csub, Anc.sub, List.map, xD, xE, xT, xU, ldSF, rSet, rInt] at hS
  generalize Act.tau a 16 = v16 at hS
  try simp only [Int.toNat_natCast] at hS
  rw [nextsQ_nth hX] at hS
  obtain ⟨_, _, _, ho⟩ := hS.obGet 1 rfl
  obtain ⟨b2, rfl⟩ := setH_ptr ho
  clear ho
  replace hS := hS.turn 1 rfl (r' := RS.hp (setH (.pointer (some ⟨b2, 0, none⟩)) n (nextQ q n (X : Int)))) (fun _ _ _ _ h => h)
  obtain ⟨F, hS⟩ := hS.nm [5, 4, 1, 0] [1, 0] rfl rfl
  refine then_n (wp_seq ?_)
  replace hS := hS.fresh 70 rfl
  refine region_q hS
    (cF rfl (oM .t) r1 trivial
    (cF rfl (o_nilCheck_ref .t) r1 trivial
    (cF rfl (oG 1 .t) r1 trivial
    (cF rfl (oR false 1 .t) r1 trivial
    (cF rfl (oM .t) r1 trivial
    (cF rfl (o_indexAddr_sl (sz := 1) (.mk Tryd.underlying69 (by kernel_rfl)) (by intro x; rfl) .t .t (by omega) (by rw [nextsQ_len]; omega)) r2 trivial
    (cF rfl (oR false 1 .t) r1 trivial
    (cF rfl (o_callN 70 (listN_c n (Go.Gm.nth (nextsQ q n) X)) Tryd.func54 rfl (by kernel_rfl) (Args.one .t) pvOne1) r1 r1
    (cF rfl (oN .t) r1 trivial
    Chain.nil)))))))))
    hB ?_
  clear hS; intro a w F hS
  replace hS := hS.sub
  obtain ⟨F, hS⟩ := hS.nm [6, 5, 4, 0] [70, 1, 0] rfl rfl
  try dsimp only [RS.sub, SF.sub, CF.sub, csub, Anc.sub, List.map, xD, xE, xT, xU, ldSF, rSet, rInt] at hS
  generalize Act.tau a 24 = v24 at hS
  try simp only [Int.toNat_natCast] at hS
  rw [nextsQ_nth hX] at hS
  refine then_n (wp_seq (wp_block ?_))
  refine loop_keep (σ := Value × List Int × List Int) [0, 4, 5] [0] (fun s => [(6, .pv (.is s.1))]) (fun s => [(70, .ob (.val s.1) (rowH 3 1 rInt s.2.1)), (1, RS.hp (setH (.pointer (some ⟨b2, 0, none⟩)) n s.2.2))]) (fun s => LookV n q (X : Int) s.2.2 s.2.1 ∧ 2 * (n - s.2.2.length) + s.2.1.length ≤ 2 * n) (fun s => 2 * (n - s.2.2.length) + s.2.1.length) ((v24), ((nextQ q n (X : Int))), ((nextQ q n (X : Int)))) hS ⟨rfl, rfl, rfl, rfl, trivial⟩ ⟨rfl, rfl, rfl, trivial⟩ ⟨look_start hinn, by show 2 * (n - (nextQ q n (X : Int)).length) + (nextQ q n (X : Int)).length ≤ 2 * n; have := up_len (nextQ_up q n (X : Int)); omega⟩ ?_
  clear hS; intro s a w F hC hS
  obtain ⟨u, wt, rw⟩ := s
  try dsimp only at hC
  obtain ⟨F, hS⟩ := hS.nm [6, 5, 4, 0] [70, 1, 0] rfl rfl
  try dsimp only at hS
  obtain ⟨hL, hmu⟩ := hC
  have hul := up_len hL.up
  refine wp_seq (wp_seq ?_)
  refine region_q hS
    (cF rfl (oM .t) r1 trivial
    (cF rfl (o_len_row 70 Tryd.underlying30 .is) r1 r1
    (cF rfl (o_gtr .t (.ci (by kernel_rfl))) r1 trivial
    Chain.nil)))
    hB ?_
  clear hS; intro a w F hS
  obtain ⟨F, hS⟩ := hS.nm [27, 26, 25, 6, 5, 4, 0] [70, 1, 0] rfl rfl
  try dsimp only [rSet, rInt] at hS
  refine then_n ?_
  refine cond_b hS rfl (fun hc0 => ?_) (fun hc0 => ?_)
  ·skip
   have hwt0 : 0 < wt.length := by simp at hc0; omega
   obtain ⟨wi, y9, rfl⟩ : ∃ wi y9, wt = wi ++ [y9] := ⟨wt.dropLast, wt.getLast (by intro h; rw [h] at hwt0; simp at hwt0), (List.dropLast_concat_getLast _).symm⟩
   have hyr := hL.up.2 y9 (hL.sub y9 (by simp))
   obtain ⟨Y9, rfl⟩ := Int.eq_ofNat_of_zero_le hyr.1
   have hmu2 := hmu
   rw [List.length_append, List.length_singleton] at hmu2
   have hlw : IntKind.wrap .i64 ((((wi ++ [(Y9 : Int)]).length : Nat) : Int) - 1) = (wi.length : Int) := by rw [List.length_append, List.length_singleton, wrap_i64 (by omega)]; omega
   have hL2 := look_step hinn hL
   have hll := look_len hL.up (nextQ_up q n (Y9 : Int))
   have hul2 := up_len hL2.up
   have hml : (minusL (nextQ q n (Y9 : Int)) rw).length ≤ n := by omega
   refine wp_skip (then_n (wp_block (wp_seq ?_)))
   refine region_q hS
     (cF rfl (oM .t) r1 trivial
     (cF rfl (oM .t) r1 trivial
     (cF rfl (o_len_row 70 Tryd.underlying30 .is) r1 r1
     (cF rfl (o_sub .t (.ci (by kernel_rfl))) r1 trivial
     (cF rfl (o_indexAddr_row (sz := 1) 70 (.mk Tryd.underlying30 (by kernel_rfl)) .is .t (by rw [hlw]; omega) (by rw [hlw, List.length_append, List.length_singleton]; omega) (by rfl)) r2 r1
     (cF rfl (o_load_row0 (ag := false) (sz' := 1) (sz := 1) 70 .t (by intro x; rfl) (by rw [hlw, Int.toNat_natCast, List.length_append, List.length_singleton]; omega) (by kernel_rfl) (by kernel_rfl) (by kernel_rfl)) r1 r1
     (cF rfl (oN .t) r1 trivial
     Chain.nil)))))))
     hB ?_
   clear hS; intro a w F hS
   obtain ⟨F, hS⟩ := hS.nm [33, 32, 31, 30, 29, 28, 27, 26, 25, 7, 6, 5, 4, 0] [70, 1, 0] rfl rfl
   try dsimp only [List.map, xD, xE, xT, xU, ldSF, rSet, rInt] at hS
   try simp only [Int.toNat_natCast] at hS
   rw [hlw] at hS
   try simp only [Int.toNat_natCast] at hS
   rw [nth_append_at] at hS
   refine then_n (wp_seq ?_)
   refine region_q hS
     (cF rfl (oM .t) r1 trivial
     (cF rfl (oM .t) r1 trivial
     (cF rfl (o_len_row 70 Tryd.underlying30 .is) r1 r1
     (cF rfl (o_sub .t (.ci (by kernel_rfl))) r1 trivial
     (cF rfl (o_cut_row (sz := 1) 70 (.mk Tryd.underlying30 (by kernel_rfl)) (by intro x; rfl) .is .t (by rw [hlw]; omega) (by rw [hlw, List.length_append, List.length_singleton]; omega)) r2 r1
     (cF rfl (oN .t) r1 trivial
     Chain.nil))))))
     hB ?_
   clear hS; intro a w F hS
   replace hS := hS.sub
   obtain ⟨F, hS⟩ := hS.nm [38, 37, 36, 35, 34, 33, 32, 31, 30, 29, 28, 27, 26, 25, 7, 6, 5, 4, 0] [70, 1, 0] rfl rfl
   try dsimp only [RS.sub, SF.sub, CF.sub, csub, Anc.sub, List.map, rSet, rInt] at hS
   generalize Act.tau a 38 = v38 at hS
   rw [hlw] at hS
   simp only [Int.toNat_natCast, List.take_left] at hS
   refine then_n (wp_seq ?_)
   replace hS := hS.fresh 71 rfl
   refine region_q hS
     (cF rfl (oM .t) r1 trivial
     (cF rfl (o_nilCheck_ref .t) r1 trivial
     (cF rfl (oG 1 .t) r1 trivial
     (cF rfl (oR false 1 .t) r1 trivial
     (cF rfl (oM .t) r1 trivial
     (cF rfl (o_indexAddr_sl (sz := 1) (.mk Tryd.underlying69 (by kernel_rfl)) (by intro x; rfl) .t .t (by omega) (by rw [nextsQ_len]; omega)) r2 trivial
     (cF rfl (oR false 1 .t) r1 trivial
     (cF rfl (o_callN 71 (FnG.ofTab (copy_c n (Go.Gm.nth (nextsQ q n) Y9))) Tryd.func48 rfl (by kernel_rfl) (Args.one .t) PV.ptr_one) r1 r1
     (cF rfl (oN .t) r1 trivial
     Chain.nil)))))))))
     hB ?_
   clear hS; intro a w F hS
   replace hS := hS.sub
   obtain ⟨F, hS⟩ := hS.nm [46, 45, 44, 43, 42, 41, 40, 39, 38, 37, 36, 35, 34, 33, 32, 31, 30, 29, 28, 27, 26, 25, 8, 7, 6, 5, 4, 0] [71, 70, 1, 0] rfl rfl
   try dsimp only [RS.sub, SF.sub, CF.sub, csub, Anc.sub, List.map, xD, xE, xT, xU, ldSF, rSet, rInt] at hS
   generalize Act.tau a 46 = v46 at hS
   try simp only [Int.toNat_natCast] at hS
   rw [nextsQ_nth (show Y9 < n by omega)] at hS
   replace hS := hS.turn 71 rfl (r' := RS.hp (setH v46 n (nextQ q n (Y9 : Int)))) (fun _ _ _ _ h => h)
   refine then_n (wp_seq ?_)
   refine region_q hS
     (cF rfl (oM .t) r1 trivial
     (cF rfl (oM .t) r1 trivial
     (cF rfl (OpC.lend 1 [48] setH_lend (o_callG1 71 (minusV_c v46 n (nextQ q n (Y9 : Int)) n rw) Tryd.func71 rfl (by kernel_rfl) (Args.two .t .t)) ⟨trivial, rfl, trivial⟩ (.pv (fun _ _ _ _ h => h)) ⟨(fun _ _ _ _ _ _ _ _ h e k => setH_free h e k), trivial⟩ (by rfl)) r2 r2
     Chain.nil)))
     hB ?_
   clear hS; intro a w F hS
   obtain ⟨F, hS⟩ := hS.nm [48, 47, 46, 45, 44, 43, 42, 41, 40, 39, 38, 37, 36, 35, 34, 33, 32, 31, 30, 29, 28, 27, 26, 25, 8, 7, 6, 5, 4, 0] [71, 70, 1, 0] rfl rfl
   try dsimp only [rSet, rInt] at hS
   refine then_n (wp_seq ?_)
   refine region_q hS
     (cF rfl (oM .t) r1 trivial
     (cF rfl (oM .t) r1 trivial
     (cF rfl (OpC.lend 71 [51] setH_lend (o_callG1 1 (orV_c (.pointer (some ⟨b2, 0, none⟩)) n rw n (minusL (nextQ q n (Y9 : Int)) rw)) Tryd.func49 rfl (by kernel_rfl) (Args.two .t .t)) ⟨trivial, rfl, trivial⟩ (.pv (fun _ _ _ _ h => h)) ⟨(fun _ _ _ _ _ _ _ _ h e k => setH_free h e k), trivial⟩ (by rfl)) r2 r2
     Chain.nil)))
     hB ?_
   clear hS; intro a w F hS
   obtain ⟨F, hS⟩ := hS.nm [51, 50, 48, 47, 46, 45, 44, 43, 42, 41, 40, 39, 38, 37, 36, 35, 34, 33, 32, 31, 30, 29, 28, 27, 26, 25, 8, 7, 6, 5, 4, 0] [71, 70, 1, 0] rfl rfl
   try dsimp only [rSet, rInt] at hS
   refine then_n ?_
   refine region_q hS
     (cF rfl (oM .t) r1 trivial
     (cF rfl (oM .t) r1 trivial
     (cF rfl (o_callG1 71 (listV_c v46 n (minusL (nextQ q n (Y9 : Int)) rw)) Tryd.func54 rfl (by kernel_rfl) (Args.one .t)) r1 r1
     (cF rfl (o_append (sz := 1) (bs := 8) 70 (.mk' Tryd.underlying30 (by kernel_rfl) (by kernel_rfl)) (by intro x; rfl) .is (.sl .t) (by rw [List.length_append, List.length_singleton] at hmu; omega) (by decide)) ⟨rfl, rfl, trivial⟩ ⟨rfl, trivial⟩
     (cF rfl (oN .t) r1 trivial
     Chain.nil)))))
     hB ?_
   clear hS; intro a w F hS
   replace hS := hS.sub
   obtain ⟨F, hS⟩ := hS.nm [56, 55, 54, 53, 51, 50, 48, 47, 46, 45, 44, 43, 42, 41, 40, 39, 38, 37, 36, 35, 34, 33, 32, 31, 30, 29, 28, 27, 26, 25, 8, 7, 6, 5, 4, 0] [71, 70, 1, 0] rfl rfl
   try dsimp only [RS.sub, SF.sub, CF.sub, csub, Anc.sub, List.map, xC, xN, rSet, rInt] at hS
   generalize Act.tau a 56 = v56 at hS
   refine block_n (then_n ?_)
   obtain ⟨F, hS⟩ := hS.nm [5, 4, 0, 6] [0, 1, 70] rfl rfl
   exact ⟨((v56), ((wi ++ (minusL (nextQ q n (Y9 : Int)) rw))), ((orL rw n (minusL (nextQ q n (Y9 : Int)) rw)))), F, ⟨hL2, by rw [List.length_append] at *; simp only [List.length_singleton] at *; omega⟩, hS, (by show 2 * (n - (orL rw n (minusL (nextQ q n (Y9 : Int)) rw)).length) + (wi ++ (minusL (nextQ q n (Y9 : Int)) rw)).length < 2 * (n - rw.length) + (wi ++ [(Y9 : Int)]).length; rw [List.length_append, List.length_append, List.length_singleton]; omega)⟩
  have hwt : wt = [] := List.eq_nil_of_length_eq_zero (by simp at hc0; simpa using hc0)
  subst hwt
  have hg : rw = reachQ q (X : Int) := look_end hL
  refine wp_exit (then_x (then_x (block_x (then_n (wp_seq ?_)))))
  refine region_q hS
    (cF rfl (oM .t) r1 trivial
    (cF rfl (oN .t) r1 trivial
    Chain.nil))
    hB ?_
  clear hS; intro a w F hS
  obtain ⟨F, hS⟩ := hS.nm [4] [70, 1, 0] rfl rfl
  try dsimp only [rSet, rInt] at hS
  refine then_n (wp_ret ?_)
  rw [hg] at hS
  refine ret_N1 (h' := fun v => setH v n (reachQ q (X : Int))) hG hS rfl (.tmp rfl .nil) (.one .ptr) rfl

end Go.Proofs.YtpahapjcdldodaaDoor
