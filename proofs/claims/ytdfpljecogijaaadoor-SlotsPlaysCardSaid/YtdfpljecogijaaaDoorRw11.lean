/- What a deed does. No condition beyond those that each theorem says. -/
import Derived.Test.YtdfpljecogijaaaDoorRw10
namespace Go.Proofs.YtdfpljecogijaaaDoor
open Go Go.Gm
set_option linter.unusedVariables false
set_option linter.unusedSimpArgs false
set_option maxHeartbeats 4000000
set_option maxRecDepth 8000


/-- A function that makes a row out of one that it reads: as its owner calls it, who keeps what is made. -/
theorem FnG.readNewG {f : FuncId} {args : List PV} {v : Value} {n m : Nat} {x z : List Int} (hc : FnG Tryd.prog f 1 (setR n x :: args) [gH tabP tabV] PV.ptr (fun u => [setH u m z])) : FnG Tryd.prog f 2 (.is v :: args) [setH v n x, HP.star []] PV.ptr (fun u => [setH v n x, setH u m z]) := fun w F vs hw hle hv hp => by
  have hset := hp 0 _ rfl
  have hemp := hp 1 _ rfl
  match vs, hv with
  | u :: us, hv =>
    obtain ⟨rfl, _⟩ := hv.1
    let F2 : Fp := fun k => if k = 0 then F 0 else fun _ => False
    have hconv : ∀ k b, F2 k b → k = 0 ∧ F 0 b := fun k b hk => by
      by_cases e : k = 0
      · subst e; exact ⟨rfl, by simpa [F2] using hk⟩
      · simp [F2, e] at hk
    have h2 : ∀ b, U F2 b → U F b := fun b ⟨k, hk⟩ => ⟨0, (hconv k b hk).2⟩
    have hn1 : ∀ b, F 1 b → ¬ U F2 b := fun b hb ⟨k, hk⟩ => by have := hw.dis 0 1 b (hconv k b hk).2 hb; omega
    have hr := setH_lend w (F 1) (U F) (U F2) hset h2 hn1 (fun b hb => hw.bd 1 b hb)
    obtain ⟨_, _, _, htab⟩ := setH_iff.1 hset
    have hw2 : Wf F2 w := ⟨fun i j b hi hj => by rw [(hconv i b hi).1, (hconv j b hj).1], fun k b hk => hw.bd 0 b (hconv k b hk).2⟩
    refine (hc w F2 (u :: us) hw2 (fun k b hk => by have := (hconv k b hk).1; omega) ⟨hr, PVt.mono (Ev.less w h2) hv.2⟩ (fun i k hi => by
      match i, hi with
      | 0, hi => simp at hi; subst hi; exact ⟨fun b hb => by simp [F2] at hb, PV.mono _ (Ev.less w h2) htab⟩)).mono ?_
    rintro e w' ⟨t, F', rfl, a1, a2, a3, a4, a5⟩
    have hnew := a5 0 _ rfl
    have hfresh : ∀ b, F' 1 b → w.heap.size ≤ b := fun b hb => by
      rcases a2.fnew 1 (by simp) b hb with ⟨k, hk, hkb⟩ | h
      · simp at hk; subst hk; simp [F2] at hkb
      · exact h
    have hkeep : ∀ b, b < w.heap.size → w'.heap[b]? = w.heap[b]? := fun b hb => a2.keep b hb (fun k hk hkb => by simp at hk; subst hk; simp [F2] at hkb)
    let F3 : Fp := fun k => if k = 0 then F 0 else if k = 1 then F 1 else if k = 2 then F' 1 else fun _ => False
    have e0 : F3 0 = F 0 := by simp [F3]
    have e1 : F3 1 = F 1 := by simp [F3]
    have e2 : F3 2 = F' 1 := by simp [F3]
    have hF3 : ∀ k b, F3 k b → (k = 0 ∧ F 0 b) ∨ (k = 1 ∧ F 1 b) ∨ (k = 2 ∧ F' 1 b) := fun k b hk => by
      by_cases c0 : k = 0
      · subst c0; rw [e0] at hk; exact .inl ⟨rfl, hk⟩
      · by_cases c1 : k = 1
        · subst c1; rw [e1] at hk; exact .inr (.inl ⟨rfl, hk⟩)
        · by_cases c2 : k = 2
          · subst c2; rw [e2] at hk; exact .inr (.inr ⟨rfl, hk⟩)
          · simp [F3, c0, c1, c2] at hk
    have hw3 : Wf F3 w' := ⟨fun i j b hi hj => by
        rcases hF3 i b hi with ⟨rfl, h1⟩ | ⟨rfl, h1⟩ | ⟨rfl, h1⟩ <;> rcases hF3 j b hj with ⟨rfl, k1⟩ | ⟨rfl, k1⟩ | ⟨rfl, k1⟩
        · rfl
        · exact hw.dis 0 1 b h1 k1
        · have := hfresh b k1; have := hw.bd 0 b h1; omega
        · exact hw.dis 1 0 b h1 k1
        · rfl
        · have := hfresh b k1; have := hw.bd 1 b h1; omega
        · have := hfresh b h1; have := hw.bd 0 b k1; omega
        · have := hfresh b h1; have := hw.bd 1 b k1; omega
        · rfl, fun k b hk => by
        rcases hF3 k b hk with ⟨_, h1⟩ | ⟨_, h1⟩ | ⟨_, h1⟩
        · exact Nat.lt_of_lt_of_le (hw.bd 0 b h1) a2.size
        · exact Nat.lt_of_lt_of_le (hw.bd 1 b h1) a2.size
        · exact a1.bd 1 b h1⟩
    have hev : Ev w (U F) w' (U F3) := ⟨a2.os, a2.tape, a2.output, a2.size, fun b hb hnb => ⟨hkeep b hb, fun ⟨k, hk⟩ => hnb (by
      rcases hF3 k b hk with ⟨_, h1⟩ | ⟨_, h1⟩ | ⟨_, h1⟩
      · exact ⟨0, h1⟩
      · exact ⟨1, h1⟩
      · have := hfresh b h1; omega)⟩⟩
    have hst3 : Stp (List.range' 1 2) w F w' F3 := ⟨a2.os, a2.tape, a2.output, a2.size, fun b hb _ => hkeep b hb, fun k hk => by
        simp at hk
        by_cases c0 : k = 0
        · subst c0; exact e0
        · funext b
          refine propext ⟨fun h => ?_, fun h => ?_⟩
          · rcases hF3 k b h with ⟨c, _⟩ | ⟨c, _⟩ | ⟨c, _⟩ <;> omega
          · have := hle k b h; omega, fun k hk b hb => by
        rcases hF3 k b hb with ⟨c, h1⟩ | ⟨c, h1⟩ | ⟨c, h1⟩
        · subst c; simp at hk
        · exact .inl ⟨1, by simp, h1⟩
        · exact .inr (hfresh b h1)⟩
    refine ⟨t, F3, rfl, hw3, hst3, fun k b hk => by rcases hF3 k b hk with ⟨c, _⟩ | ⟨c, _⟩ | ⟨c, _⟩ <;> omega, a4, fun i k hi => ?_⟩
    match i, hi with
    | 0, hi =>
      simp at hi; subst hi
      obtain ⟨ws, k1, k2, k3⟩ := setH_iff.1 hset
      rw [show (0 : Nat) + 1 = 1 from rfl, e1]
      exact setH_iff.2 ⟨ws, k1, (bitsH _ n ws).st hev (fun b hb => hkeep b (hw.bd 1 b hb)) k2, tabP.mono hev k3⟩
    | 1, hi =>
      simp at hi; subst hi
      obtain ⟨ws', g1, g2, g3⟩ := setH_iff.1 hnew
      rw [show (1 : Nat) + 1 = 2 from rfl, e2]
      exact setH_iff.2 ⟨ws', g1, bitsH_free _ _ _ _ _ _ _ g2, tabP.mono hev htab⟩
/-- .. that needs none: what is made is not kept. -/
theorem FnG.newPg {f : FuncId} {args : List PV} {q : PV} {m : Nat} {z : List Int} (hc : FnG Tryd.prog f 1 args [gH tabP tabV] q (fun u => [setH u m z])) : FnPg Tryd.prog tabP tabV f args (setR m z) := fun w y vs hy htab hv => by
  let F2 : Fp := fun k => if k = 0 then y else fun _ => False
  have hU : U F2 = y := by
    funext b
    refine propext ⟨?_, fun h => ⟨0, by simpa [F2] using h⟩⟩
    rintro ⟨k, hk⟩
    by_cases e : k = 0
    · subst e; simpa [F2] using hk
    · simp [F2, e] at hk
  have h0 : ∀ k b, F2 k b → k = 0 := fun k b hk => by
    by_cases e : k = 0
    · exact e
    · simp [F2, e] at hk
  refine (hc w F2 vs ⟨fun i j b hi hj => by rw [h0 i b hi, h0 j b hj], fun k b hk => hy b (by rw [← hU]; exact ⟨k, hk⟩)⟩ (fun k b hk => by have := h0 k b hk; omega) (by rw [hU]; exact hv) (fun i k hi => by
    match i, hi with
    | 0, hi => simp at hi; subst hi; exact ⟨fun b hb => by simp [F2] at hb, by rw [hU]; exact htab⟩)).mono ?_
  rintro e w' ⟨t, F', rfl, a1, a2, a3, a4, a5⟩
  have hnew := a5 0 _ rfl
  have hfresh : ∀ b, F' 1 b → w.heap.size ≤ b := fun b hb => by
    rcases a2.fnew 1 (by simp) b hb with ⟨k, hk, hkb⟩ | h
    · simp at hk; subst hk; simp [F2] at hkb
    · exact h
  have hkeep : ∀ b, b < w.heap.size → w'.heap[b]? = w.heap[b]? := fun b hb => a2.keep b hb (fun k hk hkb => by simp at hk; subst hk; simp [F2] at hkb)
  exact ⟨t, rfl, setH_lend w' (F' 1) _ y hnew (fun b hb => ⟨0, by rw [a2.fkeep 0 (by simp)]; simpa [F2] using hb⟩) (fun b hb hby => by have := hfresh b hb; have := hy b hby; omega) (fun b hb => a1.bd 1 b hb), ⟨a2.os, a2.tape, a2.output, a2.size, hkeep⟩⟩
structure DeedR where
  kind : Int
  other : Bool
  i : Int
  on : Bool
  deriving DecidableEq, Inhabited
def rDeedR (d : DeedR) : List PV := [.int .i64 d.kind, .bool d.other, .int .i64 d.i, .bool d.on]
def newL (n : Int) (x z : List Int) (d : DeedR) : List Int := if d.kind = 0 ∨ d.kind = 1 then putL x n d.i d.on else if d.kind = 2 then orL x n z else if d.kind = 3 then minusL x z else if d.kind = 4 then andL x z else if d.kind = 5 then movedL x n d.i else if d.kind = 6 then (if d.on then [] else x) else x
def chgL (n : Int) (x z : List Int) (d : DeedR) : Bool := if d.kind = 0 ∨ d.kind = 1 ∨ d.kind = 2 ∨ d.kind = 3 ∨ d.kind = 4 then !decide (x = newL n x z d) else if d.kind = 6 then (d.on && decide (0 < (x.length : Int))) else false

theorem moved_g (v : Value) (n : Nat) (x : List Int) (k : Int) : FnG Tryd.prog 27 1 [.is v, .int .i64 k] [setH v n x] (setR n (movedL x n k)) (fun _ => [setH v n x]) := FnG.readNew (moved_c n x k)
theorem moved_n (v : Value) (n : Nat) (x : List Int) (k : Int) : FnG Tryd.prog 27 2 [.is v, .int .i64 k] [setH v n x, HP.star []] PV.ptr (fun u => [setH v n x, setH u n (movedL x n k)]) := FnG.readNewG (moved_c n x k)
theorem moved_p (n : Nat) (x : List Int) (k : Int) : FnP Tryd.prog 27 [setR n x, .int .i64 k] (setR n (movedL x n k)) := FnG.readNewP (moved_c n x k)

theorem copy_g (v : Value) (n : Nat) (x : List Int) : FnG Tryd.prog 38 1 [.is v] [setH v n x] (setR n (x)) (fun _ => [setH v n x]) := FnG.readNew (copy_c n x)
theorem copy_n (v : Value) (n : Nat) (x : List Int) : FnG Tryd.prog 38 2 [.is v] [setH v n x, HP.star []] PV.ptr (fun u => [setH v n x, setH u n (x)]) := FnG.readNewG (copy_c n x)
theorem copy_p (n : Nat) (x : List Int) : FnP Tryd.prog 38 [setR n x] (setR n (x)) := FnG.readNewP (copy_c n x)

theorem copy_nilP : FnPg Tryd.prog tabP tabV 38 [.is (.pointer none)] (setR 0 []) := FnG.newPg copy_nil

theorem or_self2 (b n : Nat) (x : List Int) : FnG Tryd.prog 39 1 [.is (.pointer (some ⟨b, 0, none⟩)), .is (.pointer (some ⟨b, 0, none⟩))] [setH (.pointer (some ⟨b, 0, none⟩)) n x] (.bool false) (fun _ => [setH (.pointer (some ⟨b, 0, none⟩)) n x]) := FnG.ofWords fun ws hs => by
  have k := hs.or hs
  rw [orL_self hs.up] at k
  exact ⟨_, k, by have := hs.same k; rw [show false = !decide (x = x) by simp, ← this]; exact orW_self b n ws⟩

theorem and_self2 (b n : Nat) (x : List Int) : FnG Tryd.prog 40 1 [.is (.pointer (some ⟨b, 0, none⟩)), .is (.pointer (some ⟨b, 0, none⟩))] [setH (.pointer (some ⟨b, 0, none⟩)) n x] (.bool false) (fun _ => [setH (.pointer (some ⟨b, 0, none⟩)) n x]) := FnG.ofWords fun ws hs => by
  have k := hs.and hs
  rw [andL_self x] at k
  exact ⟨_, k, by have := hs.same k; rw [show false = !decide (x = x) by simp, ← this]; exact andW_self b n ws⟩

theorem does_c (b1 b2 n m : Nat) (x z : List Int) (d : DeedR) : FnG Tryd.prog 33 2 [.is (.pointer (some ⟨b1, 0, none⟩)), .is (.pointer (some ⟨b2, 0, none⟩)), .sl rInt x, .sl rInt z, .agg (rDeedR d)] [setH (.pointer (some ⟨b1, 0, none⟩)) n x, setH (.pointer (some ⟨b2, 0, none⟩)) m z] (.tup [PV.ptr, .sl rInt (newL n x z d), .bool (chgL n x z d), .bool (chgL n x z d)]) (fun v => [setH (shift 0 v) n (newL n x z d), setH (.pointer (some ⟨b2, 0, none⟩)) m z]) := by
  refine FnG.mk Tryd.func33 rfl Tryd.ntmps33 rfl (by kernel_rfl) ?_
  intro B F0 a w F hB hG hS
  have hup1 := Sat.setHup hS (i := 1) rfl
  have hup2 := Sat.setHup hS (i := 2) rfl
  have hl1 := hup1.2.len
  have hl2 := hup2.2.len
  have hxl : x.length ≤ 65536 := by omega
  have hzl : z.length ≤ 65536 := by omega
  refine wp_seq ?_
  refine region_seq hS (by kernel_rfl)
    (cF rfl (o_boxA 101 (.conv .t .agg) (by kernel_rfl)) r1 trivial
    (cF rfl (o_assign (.c rfl) (by rfl)) trivial trivial
    (cF rfl (o_assign (.c rfl) (by rfl)) trivial trivial
    (cF rfl (o_assign .cb (by rfl)) trivial trivial
    (cF rfl (o_assign .cb (by rfl)) trivial trivial
    Chain.nil)))))
    (by kernel_rfl) (by rw [hB]; kernel_rfl) ?_
  clear hS; intro a w F hS
  replace hS := hS.sub
  obtain ⟨F, hS⟩ := hS.norm [(0, _), (1, _), (2, _), (3, _), (9, _), (10, _), (11, _), (12, _), (13, _)] [(0, _), (1, _), (2, _), (101, _)] ⟨rfl, rfl, rfl, rfl, rfl, rfl, rfl, rfl, rfl, trivial⟩ r4
  try dsimp only [RS.sub, SF.sub, CF.sub, csub, Anc.sub, List.map, zCF] at hS
  generalize Act.tau a 9 = v9 at hS
  refine then_n ?_
  refine wp_seq ?_
  refine region_seq hS (by kernel_rfl)
    (cF rfl (o_move .t (by rfl)) r1 trivial
    (cF rfl (OpC.lend 1 [19] setH_lend (o_callP (len_c n x) Tryd.func30 rfl (by kernel_rfl) (Args.one .t)) ⟨rfl, trivial⟩ (.pv (fun _ _ _ _ h => h)) trivial (by rfl)) r1 r1
    (cF rfl (o_assign .t (by rfl)) r1 trivial
    Chain.nil)))
    (by kernel_rfl) (by rw [hB]; kernel_rfl) ?_
  clear hS; intro a w F hS
  obtain ⟨F, hS⟩ := hS.norm [(0, _), (1, _), (2, _), (3, _), (9, _), (10, _), (11, _), (12, _), (13, _), (14, _)] [(0, _), (1, _), (2, _), (101, _)] ⟨rfl, rfl, rfl, rfl, rfl, rfl, rfl, rfl, rfl, rfl, trivial⟩ r4
  refine then_n ?_
  refine wp_seq ?_
  refine wp_seq ?_
  refine region_seq hS (by kernel_rfl)
    (cF rfl (o_fieldAddr (off := 0) 101 .is (by kernel_rfl) (by rfl)) r1 r1
    (cF rfl (o_load (ag := false) (sz := 1) 101 .adr (by kernel_rfl) (by kernel_rfl) (by kernel_rfl) (by rfl)) r1 r1
    Chain.nil))
    (by kernel_rfl) (by rw [hB]; kernel_rfl) ?_
  clear hS; intro a w F hS
  obtain ⟨F, hS⟩ := hS.norm [(0, _), (1, _), (2, _), (3, _), (9, _), (10, _), (11, _), (12, _), (13, _), (14, _), (22, _)] [(0, _), (1, _), (2, _), (101, _)] ⟨rfl, rfl, rfl, rfl, rfl, rfl, rfl, rfl, rfl, rfl, rfl, trivial⟩ r4
  try dsimp only [List.map, List.drop_succ_cons, List.drop_zero, List.drop_nil, List.take_succ_cons, List.take_zero, List.take_nil, ldSF] at hS
  refine then_n ?_
  refine wp_block ?_
  refine wp_seq ?_
  refine wp_seq ?_
  refine region_seq hS (by kernel_rfl)
    (cF rfl (o_eql .t (.ci (by kernel_rfl))) r1 trivial
    (cF rfl (o_assign .t (by rfl)) r1 trivial
    Chain.nil))
    (by kernel_rfl) (by rw [hB]; kernel_rfl) ?_
  clear hS; intro a w F hS
  obtain ⟨F, hS⟩ := hS.norm [(0, _), (1, _), (2, _), (3, _), (9, _), (10, _), (11, _), (12, _), (13, _), (14, _), (22, _), (23, _)] [(0, _), (1, _), (2, _), (101, _)] ⟨rfl, rfl, rfl, rfl, rfl, rfl, rfl, rfl, rfl, rfl, rfl, rfl, trivial⟩ r4
  refine then_n ?_
  refine cond_b hS rfl (fun hc0 => ?_) (fun hc0 => ?_)
  ·skip
   have hk : d.kind = 0 ∨ d.kind = 1 := by simp at hc0; omega
   have hn : putL x n d.i d.on = newL n x z d := by unfold newL; rw [if_pos hk]
   have hg1 : (!decide (x = putL x n d.i d.on)) = chgL n x z d := by unfold chgL; rw [← hn, if_pos (by omega)]
   have hg2 := hg1
   clear hk
   refine wp_skip ?_
   refine then_n ?_
   refine cond_b hS rfl (fun hc1 => ?_) (fun hc1 => ?_)
   ·skip
    have hk : d.kind = 0 ∨ d.kind = 1 := by simp at hc1; omega
    have hn : putL x n d.i d.on = newL n x z d := by unfold newL; rw [if_pos hk]
    have hg1 : (!decide (x = putL x n d.i d.on)) = chgL n x z d := by unfold chgL; rw [← hn, if_pos (by omega)]
    have hg2 := hg1
    clear hk
    refine wp_seq ?_
    refine region_seq hS (by kernel_rfl)
      (cF rfl (o_move .t (by rfl)) r1 trivial
      (cF rfl (o_move .t (by rfl)) r1 trivial
      (cF rfl (o_fieldAddr (off := 2) 101 .is (by kernel_rfl) (by rfl)) r1 r1
      (cF rfl (o_load (ag := false) (sz := 1) 101 .adr (by kernel_rfl) (by kernel_rfl) (by kernel_rfl) (by rfl)) r1 r1
      (cF rfl (o_fieldAddr (off := 3) 101 .is (by kernel_rfl) (by rfl)) r1 r1
      (cF rfl (o_load (ag := false) (sz := 1) 101 .adr (by kernel_rfl) (by kernel_rfl) (by kernel_rfl) (by rfl)) r1 r1
      (cF rfl (o_callP (put_c x n d.i d.on (by omega)) Tryd.func65 rfl (by kernel_rfl) (Args.four .t .t .t .t)) r4 trivial
      (cF rfl (o_assign .t (by rfl)) r1 trivial
      Chain.nil))))))))
      (by kernel_rfl) (by rw [hB]; kernel_rfl) ?_
    clear hS; intro a w F hS
    obtain ⟨F, hS⟩ := hS.norm [(0, _), (2, _), (9, _), (10, _), (11, _), (12, _), (13, _), (15, _)] [(0, _), (1, _), (2, _), (101, _)] r8 r4
    try dsimp only [List.map, List.drop_succ_cons, List.drop_zero, List.drop_nil, List.take_succ_cons, List.take_zero, List.take_nil, ldSF] at hS
    refine then_n ?_
    refine wp_seq ?_
    refine region_seq hS (by kernel_rfl)
      (cF rfl (o_move .t (by rfl)) r1 trivial
      (cF rfl (o_move .t (by rfl)) r1 trivial
      (cF rfl (o_move .t (by rfl)) r1 trivial
      (cF rfl (o_fieldAddr (off := 2) 101 .is (by kernel_rfl) (by rfl)) r1 r1
      (cF rfl (o_load (ag := false) (sz := 1) 101 .adr (by kernel_rfl) (by kernel_rfl) (by kernel_rfl) (by rfl)) r1 r1
      (cF rfl (o_fieldAddr (off := 3) 101 .is (by kernel_rfl) (by rfl)) r1 r1
      (cF rfl (o_load (ag := false) (sz := 1) 101 .adr (by kernel_rfl) (by kernel_rfl) (by kernel_rfl) (by rfl)) r1 r1
      (cF rfl (o_callG1 1 (setS_c b1 n x d.i d.on) Tryd.func57 rfl (by kernel_rfl) (Args.three .t .t .t)) r3 r1
      (cF rfl (o_move .t (by rfl)) r1 trivial
      (cF rfl (o_move .t (by rfl)) r1 trivial
      (cF rfl (o_callP (sameInts_c x _) Tryd.func37 rfl (by kernel_rfl) (Args.two .t .t)) r2 trivial
      (cF rfl (o_not .t) r1 trivial
      (cF rfl (o_assign .t (by rfl)) r1 trivial
      (cF rfl (o_assign .t (by rfl)) r1 trivial
      (cF rfl (o_assign .t (by rfl)) r1 trivial
      (cF rfl (o_assign .t (by rfl)) r1 trivial
      Chain.nil))))))))))))))))
      (by kernel_rfl) (by rw [hB]; kernel_rfl) ?_
    clear hS; intro a w F hS
    obtain ⟨F, hS⟩ := hS.norm [(0, _), (2, _), (10, _), (11, _), (12, _), (13, _)] [(0, _), (1, _), (2, _)] r6 r3
    try dsimp only [List.map, List.drop_succ_cons, List.drop_zero, List.drop_nil, List.take_succ_cons, List.take_zero, List.take_nil, ldSF] at hS
    refine then_n ?_
    refine wp_ret ?_
    refine block_r ?_
    refine then_r ?_
    have hS := hS.turn 1 rfl (r' := RS.hp (setH (.pointer (some ⟨b1, 0, none⟩)) n (newL n x z d))) (by rw [← hn]; exact fun _ _ _ _ h => h)
    refine ret_G2f (k1 := fun v => setH v n (newL n x z d)) hG hS rfl (.tmp rfl (.tmp rfl (.tmp rfl (.tmp rfl .nil)))) (.four .ptr (.sl hn) (.bool hg1) (.bool hg2)) rfl rfl
   ·exact Bool.noConfusion (hc0.symm.trans hc1)
  ·skip
   try have hk00 := hk0
   have hk0 := hc0
   refine region_seq hS (by kernel_rfl)
     (cF rfl (o_eql .t (.ci (by kernel_rfl))) r1 trivial
     (cF rfl (o_assign .t (by rfl)) r1 trivial
     Chain.nil))
     (by kernel_rfl) (by rw [hB]; kernel_rfl) ?_
   clear hS; intro a w F hS
   obtain ⟨F, hS⟩ := hS.norm [(0, _), (1, _), (2, _), (3, _), (9, _), (10, _), (11, _), (12, _), (13, _), (14, _), (22, _), (23, _)] [(0, _), (1, _), (2, _), (101, _)] ⟨rfl, rfl, rfl, rfl, rfl, rfl, rfl, rfl, rfl, rfl, rfl, rfl, trivial⟩ r4
   refine then_n ?_
   refine cond_b hS rfl (fun hc2 => ?_) (fun hc2 => ?_)
   ·skip
    have hk : d.kind = 0 ∨ d.kind = 1 := by simp at hc2; omega
    have hn : putL x n d.i d.on = newL n x z d := by unfold newL; rw [if_pos hk]
    have hg1 : (!decide (x = putL x n d.i d.on)) = chgL n x z d := by unfold chgL; rw [← hn, if_pos (by omega)]
    have hg2 := hg1
    clear hk
    refine wp_seq ?_
    refine region_seq hS (by kernel_rfl)
      (cF rfl (o_move .t (by rfl)) r1 trivial
      (cF rfl (o_move .t (by rfl)) r1 trivial
      (cF rfl (o_fieldAddr (off := 2) 101 .is (by kernel_rfl) (by rfl)) r1 r1
      (cF rfl (o_load (ag := false) (sz := 1) 101 .adr (by kernel_rfl) (by kernel_rfl) (by kernel_rfl) (by rfl)) r1 r1
      (cF rfl (o_fieldAddr (off := 3) 101 .is (by kernel_rfl) (by rfl)) r1 r1
      (cF rfl (o_load (ag := false) (sz := 1) 101 .adr (by kernel_rfl) (by kernel_rfl) (by kernel_rfl) (by rfl)) r1 r1
      (cF rfl (o_callP (put_c x n d.i d.on (by omega)) Tryd.func65 rfl (by kernel_rfl) (Args.four .t .t .t .t)) r4 trivial
      (cF rfl (o_assign .t (by rfl)) r1 trivial
      Chain.nil))))))))
      (by kernel_rfl) (by rw [hB]; kernel_rfl) ?_
    clear hS; intro a w F hS
    obtain ⟨F, hS⟩ := hS.norm [(0, _), (2, _), (9, _), (10, _), (11, _), (12, _), (13, _), (15, _)] [(0, _), (1, _), (2, _), (101, _)] r8 r4
    try dsimp only [List.map, List.drop_succ_cons, List.drop_zero, List.drop_nil, List.take_succ_cons, List.take_zero, List.take_nil, ldSF] at hS
    refine then_n ?_
    refine wp_seq ?_
    refine region_seq hS (by kernel_rfl)
      (cF rfl (o_move .t (by rfl)) r1 trivial
      (cF rfl (o_move .t (by rfl)) r1 trivial
      (cF rfl (o_move .t (by rfl)) r1 trivial
      (cF rfl (o_fieldAddr (off := 2) 101 .is (by kernel_rfl) (by rfl)) r1 r1
      (cF rfl (o_load (ag := false) (sz := 1) 101 .adr (by kernel_rfl) (by kernel_rfl) (by kernel_rfl) (by rfl)) r1 r1
      (cF rfl (o_fieldAddr (off := 3) 101 .is (by kernel_rfl) (by rfl)) r1 r1
      (cF rfl (o_load (ag := false) (sz := 1) 101 .adr (by kernel_rfl) (by kernel_rfl) (by kernel_rfl) (by rfl)) r1 r1
      (cF rfl (o_callG1 1 (setS_c b1 n x d.i d.on) Tryd.func57 rfl (by kernel_rfl) (Args.three .t .t .t)) r3 r1
      (cF rfl (o_move .t (by rfl)) r1 trivial
      (cF rfl (o_move .t (by rfl)) r1 trivial
      (cF rfl (o_callP (sameInts_c x _) Tryd.func37 rfl (by kernel_rfl) (Args.two .t .t)) r2 trivial
      (cF rfl (o_not .t) r1 trivial
      (cF rfl (o_assign .t (by rfl)) r1 trivial
      (cF rfl (o_assign .t (by rfl)) r1 trivial
      (cF rfl (o_assign .t (by rfl)) r1 trivial
      (cF rfl (o_assign .t (by rfl)) r1 trivial
      Chain.nil))))))))))))))))
      (by kernel_rfl) (by rw [hB]; kernel_rfl) ?_
    clear hS; intro a w F hS
    obtain ⟨F, hS⟩ := hS.norm [(0, _), (2, _), (10, _), (11, _), (12, _), (13, _)] [(0, _), (1, _), (2, _)] r6 r3
    try dsimp only [List.map, List.drop_succ_cons, List.drop_zero, List.drop_nil, List.take_succ_cons, List.take_zero, List.take_nil, ldSF] at hS
    refine then_n ?_
    refine wp_ret ?_
    refine block_r ?_
    refine then_r ?_
    have hS := hS.turn 1 rfl (r' := RS.hp (setH (.pointer (some ⟨b1, 0, none⟩)) n (newL n x z d))) (by rw [← hn]; exact fun _ _ _ _ h => h)
    refine ret_G2f (k1 := fun v => setH v n (newL n x z d)) hG hS rfl (.tmp rfl (.tmp rfl (.tmp rfl (.tmp rfl .nil)))) (.four .ptr (.sl hn) (.bool hg1) (.bool hg2)) rfl rfl
   ·skip
    try have hk00 := hk0
    have hk0 := hc2
    refine wp_seq ?_
    refine region_seq hS (by kernel_rfl)
      (cF rfl (o_eql .t (.ci (by kernel_rfl))) r1 trivial
      (cF rfl (o_assign .t (by rfl)) r1 trivial
      Chain.nil))
      (by kernel_rfl) (by rw [hB]; kernel_rfl) ?_
    clear hS; intro a w F hS
    obtain ⟨F, hS⟩ := hS.norm [(0, _), (1, _), (2, _), (3, _), (9, _), (10, _), (11, _), (12, _), (13, _), (14, _), (22, _), (45, _)] [(0, _), (1, _), (2, _), (101, _)] ⟨rfl, rfl, rfl, rfl, rfl, rfl, rfl, rfl, rfl, rfl, rfl, rfl, trivial⟩ r4
    refine then_n ?_
    refine cond_b hS rfl (fun hc3 => ?_) (fun hc3 => ?_)
    ·skip
     have hk : d.kind = 2 := by simpa using hc3
     have hn : orL x n z = newL n x z d := by unfold newL; simp [hk]
     have hg1 : (!decide (x = orL x n z)) = chgL n x z d := by unfold chgL; rw [← hn]; simp [hk]
     have hg2 := hg1
     refine wp_seq ?_
     refine region_seq hS (by kernel_rfl)
       (cF rfl (o_move .t (by rfl)) r1 trivial
       (cF rfl (o_move .t (by rfl)) r1 trivial
       (cF rfl (o_move .t (by rfl)) r1 trivial
       (cF rfl (o_callP (refOr_c x n z (by omega) (by omega)) Tryd.func66 rfl (by kernel_rfl) (Args.three .t .t .t)) r3 trivial
       (cF rfl (o_assign .t (by rfl)) r1 trivial
       Chain.nil)))))
       (by kernel_rfl) (by rw [hB]; kernel_rfl) ?_
     clear hS; intro a w F hS
     obtain ⟨F, hS⟩ := hS.norm [(0, _), (1, _), (2, _), (10, _), (11, _), (12, _), (13, _), (16, _)] [(0, _), (1, _), (2, _)] r8 r3
     refine then_n ?_
     refine wp_seq ?_
     refine region_seq hS (by kernel_rfl)
       (cF rfl (o_move .t (by rfl)) r1 trivial
       (cF rfl (o_move .t (by rfl)) r1 trivial
       (cF rfl (o_move .t (by rfl)) r1 trivial
       (cF rfl (o_move .t (by rfl)) r1 trivial
       (cF rfl (OpC.lend 2 [54] setH_lend (o_callG1 1 (or_c b1 n x m z) Tryd.func39 rfl (by kernel_rfl) (Args.two .t .t)) ⟨trivial, rfl, trivial⟩ (.pv (fun _ _ _ _ h => h)) ⟨(fun _ _ _ _ _ _ _ _ h e k => setH_free h e k), trivial⟩ (by rfl)) r2 r2
       (cF rfl (o_move .t (by rfl)) r1 trivial
       (cF rfl (o_move .t (by rfl)) r1 trivial
       (cF rfl (o_callP (sameInts_c x _) Tryd.func37 rfl (by kernel_rfl) (Args.two .t .t)) r2 trivial
       (cF rfl (o_not .t) r1 trivial
       (cF rfl (o_assign .t (by rfl)) r1 trivial
       (cF rfl (o_assign .t (by rfl)) r1 trivial
       (cF rfl (o_assign .t (by rfl)) r1 trivial
       (cF rfl (o_assign .t (by rfl)) r1 trivial
       Chain.nil)))))))))))))
       (by kernel_rfl) (by rw [hB]; kernel_rfl) ?_
     clear hS; intro a w F hS
     obtain ⟨F, hS⟩ := hS.norm [(0, _), (2, _), (10, _), (11, _), (12, _), (13, _)] [(0, _), (1, _), (2, _)] r6 r3
     refine then_n ?_
     refine wp_ret ?_
     refine block_r ?_
     refine then_r ?_
     have hS := hS.turn 1 rfl (r' := RS.hp (setH (.pointer (some ⟨b1, 0, none⟩)) n (newL n x z d))) (by rw [← hn]; exact fun _ _ _ _ h => h)
     refine ret_G2f (k1 := fun v => setH v n (newL n x z d)) hG hS rfl (.tmp rfl (.tmp rfl (.tmp rfl (.tmp rfl .nil)))) (.four .ptr (.sl hn) (.bool hg1) (.bool hg2)) rfl rfl
    ·skip
     have hk2 := hc3
     refine wp_seq ?_
     refine region_seq hS (by kernel_rfl)
       (cF rfl (o_eql .t (.ci (by kernel_rfl))) r1 trivial
       (cF rfl (o_assign .t (by rfl)) r1 trivial
       Chain.nil))
       (by kernel_rfl) (by rw [hB]; kernel_rfl) ?_
     clear hS; intro a w F hS
     obtain ⟨F, hS⟩ := hS.norm [(0, _), (1, _), (2, _), (3, _), (9, _), (10, _), (11, _), (12, _), (13, _), (14, _), (22, _), (60, _)] [(0, _), (1, _), (2, _), (101, _)] ⟨rfl, rfl, rfl, rfl, rfl, rfl, rfl, rfl, rfl, rfl, rfl, rfl, trivial⟩ r4
     refine then_n ?_
     refine cond_b hS rfl (fun hc4 => ?_) (fun hc4 => ?_)
     ·skip
      have hk : d.kind = 3 := by simpa using hc4
      have hn : minusL x z = newL n x z d := by unfold newL; simp [hk]
      have hg1 : (!decide (x = minusL x z)) = chgL n x z d := by unfold chgL; rw [← hn]; simp [hk]
      have hg2 := hg1
      refine wp_seq ?_
      refine region_seq hS (by kernel_rfl)
        (cF rfl (o_move .t (by rfl)) r1 trivial
        (cF rfl (o_move .t (by rfl)) r1 trivial
        (cF rfl (o_callP (refMinus_c x z (by omega) (by omega)) Tryd.func67 rfl (by kernel_rfl) (Args.two .t .t)) r2 trivial
        (cF rfl (o_assign .t (by rfl)) r1 trivial
        Chain.nil))))
        (by kernel_rfl) (by rw [hB]; kernel_rfl) ?_
      clear hS; intro a w F hS
      obtain ⟨F, hS⟩ := hS.norm [(0, _), (1, _), (2, _), (10, _), (11, _), (12, _), (13, _), (17, _)] [(0, _), (1, _), (2, _)] r8 r3
      refine then_n ?_
      refine wp_seq ?_
      refine region_seq hS (by kernel_rfl)
        (cF rfl (o_move .t (by rfl)) r1 trivial
        (cF rfl (o_move .t (by rfl)) r1 trivial
        (cF rfl (o_move .t (by rfl)) r1 trivial
        (cF rfl (o_move .t (by rfl)) r1 trivial
        (cF rfl (OpC.lend 2 [68] setH_lend (o_callG1 1 (minus_c b1 n x m z) Tryd.func41 rfl (by kernel_rfl) (Args.two .t .t)) ⟨trivial, rfl, trivial⟩ (.pv (fun _ _ _ _ h => h)) ⟨(fun _ _ _ _ _ _ _ _ h e k => setH_free h e k), trivial⟩ (by rfl)) r2 r2
        (cF rfl (o_move .t (by rfl)) r1 trivial
        (cF rfl (o_move .t (by rfl)) r1 trivial
        (cF rfl (o_callP (sameInts_c x _) Tryd.func37 rfl (by kernel_rfl) (Args.two .t .t)) r2 trivial
        (cF rfl (o_not .t) r1 trivial
        (cF rfl (o_assign .t (by rfl)) r1 trivial
        (cF rfl (o_assign .t (by rfl)) r1 trivial
        (cF rfl (o_assign .t (by rfl)) r1 trivial
        (cF rfl (o_assign .t (by rfl)) r1 trivial
        Chain.nil)))))))))))))
        (by kernel_rfl) (by rw [hB]; kernel_rfl) ?_
      clear hS; intro a w F hS
      obtain ⟨F, hS⟩ := hS.norm [(0, _), (2, _), (10, _), (11, _), (12, _), (13, _)] [(0, _), (1, _), (2, _)] r6 r3
      refine then_n ?_
      refine wp_ret ?_
      refine block_r ?_
      refine then_r ?_
      have hS := hS.turn 1 rfl (r' := RS.hp (setH (.pointer (some ⟨b1, 0, none⟩)) n (newL n x z d))) (by rw [← hn]; exact fun _ _ _ _ h => h)
      refine ret_G2f (k1 := fun v => setH v n (newL n x z d)) hG hS rfl (.tmp rfl (.tmp rfl (.tmp rfl (.tmp rfl .nil)))) (.four .ptr (.sl hn) (.bool hg1) (.bool hg2)) rfl rfl
     ·skip
      have hk3 := hc4
      refine wp_seq ?_
      refine region_seq hS (by kernel_rfl)
        (cF rfl (o_eql .t (.ci (by kernel_rfl))) r1 trivial
        (cF rfl (o_assign .t (by rfl)) r1 trivial
        Chain.nil))
        (by kernel_rfl) (by rw [hB]; kernel_rfl) ?_
      clear hS; intro a w F hS
      obtain ⟨F, hS⟩ := hS.norm [(0, _), (1, _), (2, _), (3, _), (9, _), (10, _), (11, _), (12, _), (13, _), (14, _), (22, _), (74, _)] [(0, _), (1, _), (2, _), (101, _)] ⟨rfl, rfl, rfl, rfl, rfl, rfl, rfl, rfl, rfl, rfl, rfl, rfl, trivial⟩ r4
      refine then_n ?_
      refine cond_b hS rfl (fun hc5 => ?_) (fun hc5 => ?_)
      ·skip
       have hk : d.kind = 4 := by simpa using hc5
       have hn : andL x z = newL n x z d := by unfold newL; simp [hk]
       have hg1 : (!decide (x = andL x z)) = chgL n x z d := by unfold chgL; rw [← hn]; simp [hk]
       have hg2 := hg1
       refine wp_seq ?_
       refine region_seq hS (by kernel_rfl)
         (cF rfl (o_move .t (by rfl)) r1 trivial
         (cF rfl (o_move .t (by rfl)) r1 trivial
         (cF rfl (o_callP (refAnd_c x z (by omega) (by omega)) Tryd.func68 rfl (by kernel_rfl) (Args.two .t .t)) r2 trivial
         (cF rfl (o_assign .t (by rfl)) r1 trivial
         Chain.nil))))
         (by kernel_rfl) (by rw [hB]; kernel_rfl) ?_
       clear hS; intro a w F hS
       obtain ⟨F, hS⟩ := hS.norm [(0, _), (1, _), (2, _), (10, _), (11, _), (12, _), (13, _), (18, _)] [(0, _), (1, _), (2, _)] r8 r3
       refine then_n ?_
       refine wp_seq ?_
       refine region_seq hS (by kernel_rfl)
         (cF rfl (o_move .t (by rfl)) r1 trivial
         (cF rfl (o_move .t (by rfl)) r1 trivial
         (cF rfl (o_move .t (by rfl)) r1 trivial
         (cF rfl (o_move .t (by rfl)) r1 trivial
         (cF rfl (OpC.lend 2 [82] setH_lend (o_callG1 1 (and_c b1 n x m z) Tryd.func40 rfl (by kernel_rfl) (Args.two .t .t)) ⟨trivial, rfl, trivial⟩ (.pv (fun _ _ _ _ h => h)) ⟨(fun _ _ _ _ _ _ _ _ h e k => setH_free h e k), trivial⟩ (by rfl)) r2 r2
         (cF rfl (o_move .t (by rfl)) r1 trivial
         (cF rfl (o_move .t (by rfl)) r1 trivial
         (cF rfl (o_callP (sameInts_c x _) Tryd.func37 rfl (by kernel_rfl) (Args.two .t .t)) r2 trivial
         (cF rfl (o_not .t) r1 trivial
         (cF rfl (o_assign .t (by rfl)) r1 trivial
         (cF rfl (o_assign .t (by rfl)) r1 trivial
         (cF rfl (o_assign .t (by rfl)) r1 trivial
         (cF rfl (o_assign .t (by rfl)) r1 trivial
         Chain.nil)))))))))))))
         (by kernel_rfl) (by rw [hB]; kernel_rfl) ?_
       clear hS; intro a w F hS
       obtain ⟨F, hS⟩ := hS.norm [(0, _), (2, _), (10, _), (11, _), (12, _), (13, _)] [(0, _), (1, _), (2, _)] r6 r3
       refine then_n ?_
       refine wp_ret ?_
       refine block_r ?_
       refine then_r ?_
       have hS := hS.turn 1 rfl (r' := RS.hp (setH (.pointer (some ⟨b1, 0, none⟩)) n (newL n x z d))) (by rw [← hn]; exact fun _ _ _ _ h => h)
       refine ret_G2f (k1 := fun v => setH v n (newL n x z d)) hG hS rfl (.tmp rfl (.tmp rfl (.tmp rfl (.tmp rfl .nil)))) (.four .ptr (.sl hn) (.bool hg1) (.bool hg2)) rfl rfl
      ·skip
       have hk4 := hc5
       refine wp_seq ?_
       refine region_seq hS (by kernel_rfl)
         (cF rfl (o_eql .t (.ci (by kernel_rfl))) r1 trivial
         (cF rfl (o_assign .t (by rfl)) r1 trivial
         Chain.nil))
         (by kernel_rfl) (by rw [hB]; kernel_rfl) ?_
       clear hS; intro a w F hS
       obtain ⟨F, hS⟩ := hS.norm [(0, _), (2, _), (9, _), (10, _), (11, _), (12, _), (13, _), (14, _), (22, _), (88, _)] [(0, _), (1, _), (2, _), (101, _)] ⟨rfl, rfl, rfl, rfl, rfl, rfl, rfl, rfl, rfl, rfl, trivial⟩ r4
       refine then_n ?_
       refine cond_b hS rfl (fun hc6 => ?_) (fun hc6 => ?_)
       ·skip
        have hk : d.kind = 5 := by simpa using hc6
        have hn : movedL x n d.i = newL n x z d := by unfold newL; simp [hk]
        have hg1 : false = chgL n x z d := by unfold chgL; simp [hk]
        have hg2 := hg1
        refine wp_seq ?_
        replace hS := hS.fresh 60 rfl
        refine region_any (by kernel_rfl) hS (by kernel_rfl)
          (cF rfl (o_move .t (by rfl)) r1 trivial
          (cF rfl (o_fieldAddr (off := 2) 101 .is (by kernel_rfl) (by rfl)) r1 r1
          (cF rfl (o_load (ag := false) (sz := 1) 101 .adr (by kernel_rfl) (by kernel_rfl) (by kernel_rfl) (by rfl)) r1 r1
          (cF rfl (o_callG2N 1 60 (moved_n (.pointer (some ⟨b1, 0, none⟩)) n x d.i) Tryd.func27 rfl (by kernel_rfl) rfl (Args.two .t .t) PV.ptr_one) r2 r2
          (cF rfl (o_move .t (by rfl)) r1 trivial
          (cF rfl (o_move .t (by rfl)) r1 trivial
          (cF rfl (o_fieldAddr (off := 2) 101 .is (by kernel_rfl) (by rfl)) r1 r1
          (cF rfl (o_load (ag := false) (sz := 1) 101 .adr (by kernel_rfl) (by kernel_rfl) (by kernel_rfl) (by rfl)) r1 r1
          (cF rfl (o_callP (refMoved_c x n d.i (by omega) (by omega) hup1.2.2) Tryd.func69 rfl (by kernel_rfl) (Args.three .t .t .t)) r3 trivial
          (cF rfl (o_assign .t (by rfl)) r1 trivial
          (cF rfl (o_assign .t (by rfl)) r1 trivial
          (cF rfl (o_assign .cb (by rfl)) trivial trivial
          (cF rfl (o_assign .cb (by rfl)) trivial trivial
          Chain.nil)))))))))))))
          (by kernel_rfl) (by rw [hB]; kernel_rfl) ?_
        clear hS; intro a w F hS
        replace hS := hS.sub
        obtain ⟨F, hS⟩ := hS.norm [(0, _), (2, _), (10, _), (11, _), (12, _), (13, _)] [(0, _), (1, _), (2, _), (60, _)] r6 r4
        try dsimp only [RS.sub, SF.sub, CF.sub, csub, Anc.sub, List.map, List.drop_succ_cons, List.drop_zero, List.drop_nil, List.take_succ_cons, List.take_zero, List.take_nil, ldSF] at hS
        generalize Act.tau a 93 = v93 at hS
        obtain ⟨_, _, _, ho⟩ := hS.obGet 60 rfl
        obtain ⟨b3, rfl⟩ := setH_ptr ho
        clear ho
        replace hS := hS.turn 60 rfl (r' := RS.hp (setH (.pointer (some ⟨b3, 0, none⟩)) n (movedL x n d.i))) (fun _ _ _ _ h => h)
        obtain ⟨F, hS⟩ := hS.norm [(0, _), (2, _), (10, _), (11, _), (12, _), (13, _)] [(0, _), (1, _), (2, _), (60, _)] r6 r4
        refine then_n ?_
        refine wp_ret ?_
        refine block_r ?_
        refine then_r ?_
        obtain ⟨F, hS⟩ := hS.norm [(0, _), (2, _), (10, _), (11, _), (12, _), (13, _)] [(0, _), (2, _), (60, _)] ⟨rfl, rfl, rfl, rfl, rfl, rfl, trivial⟩ ⟨rfl, rfl, rfl, trivial⟩
        obtain ⟨F, hS⟩ := hS.rename 60 1 rfl rfl
        have hS := hS.turn 1 rfl (r' := RS.hp (setH (.pointer (some ⟨b3, 0, none⟩)) n (newL n x z d))) (by rw [← hn]; exact fun _ _ _ _ h => h)
        refine ret_G2f (k1 := fun v => setH v n (newL n x z d)) hG hS rfl (.tmp rfl (.tmp rfl (.tmp rfl (.tmp rfl .nil)))) (.four .ptr (.sl hn) (.bool hg1) (.bool hg2)) rfl rfl
       ·skip
        have hk5 := hc6
        refine wp_seq ?_
        refine region_seq hS (by kernel_rfl)
          (cF rfl (o_eql .t (.ci (by kernel_rfl))) r1 trivial
          (cF rfl (o_assign .t (by rfl)) r1 trivial
          Chain.nil))
          (by kernel_rfl) (by rw [hB]; kernel_rfl) ?_
        clear hS; intro a w F hS
        obtain ⟨F, hS⟩ := hS.norm [(0, _), (2, _), (9, _), (10, _), (11, _), (12, _), (13, _), (99, _)] [(0, _), (1, _), (2, _), (101, _)] r8 r4
        refine then_n ?_
        refine cond_b hS rfl (fun hc7 => ?_) (fun hc7 => ?_)
        ·skip
         have hk : d.kind = 6 := by simpa using hc7
         refine wp_seq ?_
         refine wp_seq ?_
         refine region_seq hS (by kernel_rfl)
           (cF rfl (o_fieldAddr (off := 3) 101 .is (by kernel_rfl) (by rfl)) r1 r1
           (cF rfl (o_load (ag := false) (sz := 1) 101 .adr (by kernel_rfl) (by kernel_rfl) (by kernel_rfl) (by rfl)) r1 r1
           Chain.nil))
           (by kernel_rfl) (by rw [hB]; kernel_rfl) ?_
         clear hS; intro a w F hS
         obtain ⟨F, hS⟩ := hS.norm [(0, _), (2, _), (10, _), (11, _), (12, _), (13, _), (102, _)] [(0, _), (1, _), (2, _)] r7 r3
         try dsimp only [List.map, List.drop_succ_cons, List.drop_zero, List.drop_nil, List.take_succ_cons, List.take_zero, List.take_nil, ldSF] at hS
         refine then_n ?_
         refine cond_b hS rfl (fun hc8 => ?_) (fun hc8 => ?_)
         ·skip
          have hn0 : [] = newL n x z d := by unfold newL; simp [hk, hc8]
          have hn : minusL x x = newL n x z d := by rw [minusL_self]; exact hn0
          have hg1 : (!decide (x = minusL x x)) = chgL n x z d := by
            rw [minusL_self]
            unfold chgL
            cases x <;> simp [hk, hc8]
          have hg2 : decide (0 < (x.length : Int)) = chgL n x z d := by unfold chgL; simp [hk, hc8]
          refine wp_seq ?_
          refine region_seq hS (by kernel_rfl)
            (cF rfl (o_move .t (by rfl)) r1 trivial
            (cF rfl (o_move .t (by rfl)) r1 trivial
            (cF rfl (o_move .t (by rfl)) r1 trivial
            (cF rfl (o_callG1 1 (minus_self b1 n x) Tryd.func41 rfl (by kernel_rfl) (Args.two .t .t)) r2 r1
            (cF rfl (o_move .t (by rfl)) r1 trivial
            (cF rfl (o_len_sl Tryd.underlying22 .t) r1 trivial
            (cF rfl (o_gtr .t (.ci (by kernel_rfl))) r1 trivial
            (cF rfl (o_assign .t (by rfl)) r1 trivial
            (cF rfl (o_assign (.c rfl) (by rfl)) trivial trivial
            (cF rfl (o_assign .t (by rfl)) r1 trivial
            (cF rfl (o_assign .t (by rfl)) r1 trivial
            Chain.nil)))))))))))
            (by kernel_rfl) (by rw [hB]; kernel_rfl) ?_
          clear hS; intro a w F hS
          obtain ⟨F, hS⟩ := hS.norm [(0, _), (2, _), (10, _), (11, _), (12, _), (13, _)] [(0, _), (1, _), (2, _)] r6 r3
          refine then_n ?_
          refine wp_ret ?_
          refine then_r ?_
          refine block_r ?_
          refine then_r ?_
          have hS := hS.turn 1 rfl (r' := RS.hp (setH (.pointer (some ⟨b1, 0, none⟩)) n (newL n x z d))) (by rw [← hn]; exact fun _ _ _ _ h => h)
          refine ret_G2f (k1 := fun v => setH v n (newL n x z d)) hG hS rfl (.tmp rfl (.tmp rfl (.tmp rfl (.tmp rfl .nil)))) (.four .ptr (.trans .nilSl (.sl hn0)) (.bool hg1) (.bool hg2)) rfl rfl
         ·skip
          have hn : x = newL n x z d := by unfold newL; simp [hk, hc8]
          have hg1 : false = chgL n x z d := by unfold chgL; simp [hk, hc8]
          have hg2 := hg1
          refine wp_skip ?_
          refine then_n ?_
          refine wp_seq ?_
          refine region_seq hS (by kernel_rfl)
            (cF rfl (o_move .t (by rfl)) r1 trivial
            (cF rfl (o_move .t (by rfl)) r1 trivial
            (cF rfl (o_move .t (by rfl)) r1 trivial
            (cF rfl (o_move .t (by rfl)) r1 trivial
            (cF rfl (o_callG1 1 (or_self2 b1 n x) Tryd.func39 rfl (by kernel_rfl) (Args.two .t .t)) r2 r1
            (cF rfl (o_move .t (by rfl)) r1 trivial
            (Chain.cons (Cert.cond rfl rfl (fun h => o_move .t (by rfl))) r2 trivial
            (Chain.cons (Cert.cond rfl rfl (fun h => o_move .t (by rfl))) r2 trivial
            (Chain.cons (Cert.condR rfl rfl (by rfl) (fun h => o_callG1 1 (and_self2 b1 n x) Tryd.func40 rfl (by kernel_rfl) (Args.two (.w h) (.w h)))) r3 r1
            (cF rfl (o_or2 .t .t) r2 trivial
            (cF rfl (o_assign .t (by rfl)) r1 trivial
            (cF rfl (o_assign .t (by rfl)) r1 trivial
            (cF rfl (o_assign .t (by rfl)) r1 trivial
            (cF rfl (o_assign .cb (by rfl)) trivial trivial
            Chain.nil))))))))))))))
            (by kernel_rfl) (by rw [hB]; kernel_rfl) ?_
          clear hS; intro a w F hS
          obtain ⟨F, hS⟩ := hS.norm [(0, _), (2, _), (10, _), (11, _), (12, _), (13, _)] [(0, _), (1, _), (2, _)] r6 r3
          refine then_n ?_
          refine wp_ret ?_
          refine block_r ?_
          refine then_r ?_
          have hS := hS.turn 1 rfl (r' := RS.hp (setH (.pointer (some ⟨b1, 0, none⟩)) n (newL n x z d))) (by rw [← hn]; exact fun _ _ _ _ h => h)
          refine ret_G2f (k1 := fun v => setH v n (newL n x z d)) hG hS rfl (.tmp rfl (.tmp rfl (.tmp rfl (.tmp rfl .nil)))) (.four .ptr (.sl hn) (.bool hg1) (.bool hg2)) rfl rfl
        ·skip
         have hn : x = newL n x z d := by simp at hk00 hk0 hk2 hk3 hk4 hk5 hc7; unfold newL; simp [hk00, hk0, hk2, hk3, hk4, hk5, hc7]
         have hg1 : false = chgL n x z d := by simp at hk00 hk0 hk2 hk3 hk4 hk5 hc7; unfold chgL; simp [hk00, hk0, hk2, hk3, hk4, hk5, hc7]
         have hg2 := hg1
         refine wp_skip ?_
         refine block_n ?_
         refine then_n ?_
         refine wp_seq ?_
         replace hS := hS.fresh 60 rfl
         refine region_seq hS (by kernel_rfl)
           (cF rfl (o_move .t (by rfl)) r1 trivial
           (cF rfl (o_callG2N 1 60 (copy_n (.pointer (some ⟨b1, 0, none⟩)) n x) Tryd.func38 rfl (by kernel_rfl) rfl (Args.one .t) PV.ptr_one) r1 r2
           (cF rfl (o_move .t (by rfl)) r1 trivial
           (cF rfl (o_assign .t (by rfl)) r1 trivial
           (cF rfl (o_assign .t (by rfl)) r1 trivial
           (cF rfl (o_assign .cb (by rfl)) trivial trivial
           (cF rfl (o_assign .cb (by rfl)) trivial trivial
           Chain.nil)))))))
           (by kernel_rfl) (by rw [hB]; kernel_rfl) ?_
         clear hS; intro a w F hS
         replace hS := hS.sub
         obtain ⟨F, hS⟩ := hS.norm [(10, _), (11, _), (12, _), (13, _)] [(0, _), (1, _), (2, _), (60, _)] r4 r4
         try dsimp only [RS.sub, SF.sub, CF.sub, csub, Anc.sub, List.map] at hS
         generalize Act.tau a 121 = v121 at hS
         obtain ⟨_, _, _, ho⟩ := hS.obGet 60 rfl
         obtain ⟨b3, rfl⟩ := setH_ptr ho
         clear ho
         replace hS := hS.turn 60 rfl (r' := RS.hp (setH (.pointer (some ⟨b3, 0, none⟩)) n x)) (fun _ _ _ _ h => h)
         obtain ⟨F, hS⟩ := hS.norm [(10, _), (11, _), (12, _), (13, _)] [(0, _), (1, _), (2, _), (60, _)] r4 r4
         refine then_n ?_
         refine wp_ret ?_
         obtain ⟨F, hS⟩ := hS.norm [(10, _), (11, _), (12, _), (13, _)] [(0, _), (2, _), (60, _)] ⟨rfl, rfl, rfl, rfl, trivial⟩ ⟨rfl, rfl, rfl, trivial⟩
         obtain ⟨F, hS⟩ := hS.rename 60 1 rfl rfl
         have hS := hS.turn 1 rfl (r' := RS.hp (setH (.pointer (some ⟨b3, 0, none⟩)) n (newL n x z d))) (by rw [← hn]; exact fun _ _ _ _ h => h)
         refine ret_G2f (k1 := fun v => setH v n (newL n x z d)) hG hS rfl (.tmp rfl (.tmp rfl (.tmp rfl (.tmp rfl .nil)))) (.four .ptr (.sl hn) (.bool hg1) (.bool hg2)) rfl rfl

theorem tells_c (n : Nat) (x : List Int) (p : Int) : FnP Tryd.prog 34 [setR n x, .int .i64 n, .sl rInt x, .int .i64 p] (.bool true) := by
  refine FnP.mk Tryd.func34 rfl Tryd.ntmps34 rfl ?_
  intro B a w F hB hfr hS
  have hup := Sat.setRup hS (i := 0) rfl
  have hlen := hup.2.len
  refine wp_seq ?_
  refine region_seq hS (by kernel_rfl)
    (cF rfl (o_assign .cb (by rfl)) trivial trivial
    Chain.nil)
    (by kernel_rfl) (by rw [hB]; kernel_rfl) ?_
  clear hS; intro a w F hS
  obtain ⟨F, hS⟩ := hS.norm [(0, _), (1, _), (2, _), (3, _), (8, _)] [(0, _)] r5 r1
  refine then_n ?_
  refine wp_seq ?_
  refine region_seqN hS (by kernel_rfl)
    (cG rfl (o_move .t (by rfl)) r1 trivial
    (cG rfl (o_nn_neq Tryd.underlying46 (fun _ _ _ h => setR_ptr h) .t) r1 trivial
    (cG rfl (o_move .t (by rfl)) r1 trivial
    (ChainN.cons (Cert.cond rfl rfl (fun h => o_move .t (by rfl))) r2 trivial
    (ChainN.cons (Cert.cond rfl rfl (fun h => o_callP (len_c n x) Tryd.func30 rfl (by kernel_rfl) (Args.one (.w h)))) r2 trivial
    (ChainN.cons (Cert.cond rfl rfl (fun h => o_move .t (by rfl))) r2 trivial
    (ChainN.cons (Cert.cond rfl rfl (fun h => o_eql (.w h) (.w h))) r3 trivial
    (cG rfl (o_and2 .t .t) r2 trivial
    (cG rfl (o_move .t (by rfl)) r1 trivial
    (ChainN.cons (Cert.cond rfl rfl (fun h => o_move .t (by rfl))) r2 trivial
    (ChainN.cons (Cert.cond rfl rfl (fun h => o_callP (countS_c n x) Tryd.func31 rfl (by kernel_rfl) (Args.one (.w h)))) r2 trivial
    (ChainN.cons (Cert.cond rfl rfl (fun h => o_move .t (by rfl))) r2 trivial
    (ChainN.cons (Cert.cond rfl rfl (fun h => o_len_sl Tryd.underlying22 (.w h))) r2 trivial
    (ChainN.cons (Cert.cond rfl rfl (fun h => o_eql (.w h) (.w h))) r3 trivial
    (cG rfl (o_and2 .t .t) r2 trivial
    (cG rfl (o_move .t (by rfl)) r1 trivial
    (ChainN.cons (Cert.cond rfl rfl (fun h => o_move .t (by rfl))) r2 trivial
    (ChainN.cons (Cert.cond rfl rfl (fun h => o_callP (list_c n x) Tryd.func28 rfl (by kernel_rfl) (Args.one (.w h)))) r2 trivial
    (ChainN.cons (Cert.cond rfl rfl (fun h => o_move .t (by rfl))) r2 trivial
    (ChainN.cons (Cert.cond rfl rfl (fun h => o_callP (sameInts_c x x) Tryd.func37 rfl (by kernel_rfl) (Args.two (.w h) (.w h)))) r3 trivial
    (cG rfl (o_and2 .t .t) r2 trivial
    (cG rfl (o_move .t (by rfl)) r1 trivial
    (ChainN.cons (Cert.cond rfl rfl (fun h => o_move .t (by rfl))) r2 trivial
    (ChainN.cons (Cert.cond rfl rfl (fun h => o_move .t (by rfl))) r2 trivial
    (ChainN.norm [(0, _), (2, _), (3, _), (8, _), (30, _), (31, _), (32, _)] [(0, _)] r7 r1
    (ChainN.cons (Cert.cond rfl rfl (fun h => o_callP (next_c n x p) Tryd.func60 rfl (by kernel_rfl) (Args.two (.w h) (.w h)))) r3 trivial
    (ChainN.cons (Cert.cond rfl rfl (fun h => o_move .t (by rfl))) r2 trivial
    (ChainN.cons (Cert.cond rfl rfl (fun h => o_move .t (by rfl))) r2 trivial
    (ChainN.cons (Cert.cond rfl rfl (fun h => o_callP (refNext_c x p (by omega)) Tryd.func70 rfl (by kernel_rfl) (Args.two (.w h) (.w h)))) r3 trivial
    (ChainN.cons (Cert.cond rfl rfl (fun h => o_eql (.w h) (.w h))) r3 trivial
    (cG rfl (o_and2 .t .t) r2 trivial
    (cG rfl (o_move .t (by rfl)) r1 trivial
    (ChainN.cons (Cert.cond rfl rfl (fun h => o_move .t (by rfl))) r2 trivial
    (ChainN.cons (Cert.cond rfl rfl (fun h => o_move .t (by rfl))) r2 trivial
    (ChainN.cons (Cert.cond rfl rfl (fun h => o_callP (hasS_c n x p) Tryd.func29 rfl (by kernel_rfl) (Args.two (.w h) (.w h)))) r3 trivial
    (ChainN.cons (Cert.cond rfl rfl (fun h => o_move .t (by rfl))) r2 trivial
    (ChainN.cons (Cert.cond rfl rfl (fun h => o_move .t (by rfl))) r2 trivial
    (ChainN.cons (Cert.cond rfl rfl (fun h => o_callP (in_c x p (by omega)) Tryd.func55 rfl (by kernel_rfl) (Args.two (.w h) (.w h)))) r3 trivial
    (ChainN.cons (Cert.cond rfl rfl (fun h => o_eqlB Tryd.underlying4 (.w h) (.w h))) r3 trivial
    (cG rfl (o_and2 .t .t) r2 trivial
    (cG rfl (o_assign .t (by rfl)) r1 trivial
    ChainN.nil)))))))))))))))))))))))))))))))))))))))))
    (by kernel_rfl) (by rw [hB]; kernel_rfl) ?_
  clear hS; intro a w F hS
  obtain ⟨F, hS⟩ := hS.norm [(8, _)] [(0, _)] r1 r1
  refine then_n ?_
  refine wp_ret ?_
  refine ret_P hfr hS rfl (.tmp rfl .nil) (.one (.bool (by simp)))

end Go.Proofs.YtdfpljecogijaaaDoor
