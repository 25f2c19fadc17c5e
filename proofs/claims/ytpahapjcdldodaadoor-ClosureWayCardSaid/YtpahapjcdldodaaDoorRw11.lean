/- What a deed does. No condition beyond those that each theorem says. -/
import Derived.Test.YtpahapjcdldodaaDoorRw10
namespace Go.Proofs.YtpahapjcdldodaaDoor
open Go Go.Gm
set_option linter.unusedVariables false
set_option linter.unusedSimpArgs false
set_option maxHeartbeats 4000000
set_option maxRecDepth 8000


/-- A function that makes a row out of one that it reads: as its owner calls it, who keeps what is made. -/
theorem FnG.readNewG {f : FuncId} {args : List PV} {v : Value} {n m : Nat} {x z : List Int} (hc : FnG Tryd.prog f 1 (setR n x :: args) [gH tabP tabV] PV.ptr (fun u => [setH u m z])) : FnG Tryd.prog f 2 (.is v :: args) [setH v n x, HP.star []] PV.ptr (fun u => [setH v n x, setH u m z]) := fun w F vs hw hle hv hp => by
  have hset := hp 0 _ rfl
  have hemp := hp 1 _ rfl
  match vs, hv with
  | u :: us, hv =>
    obtain ⟨rfl, _⟩ := hv.1
    let F2 : Fp := fun k => if k = 0 then F 0 else fun _ => False
    have hconv : ∀ k b, F2 k b → k = 0 ∧ F 0 b := fun k b hk => by
      by_cases e : k = 0
      · subst e; exact ⟨rfl, by simpa [F2] using hk⟩
      · simp [F2, e] at hk
    have h2 : ∀ b, U F2 b → U F b := fun b ⟨k, hk⟩ => ⟨0, (hconv k b hk).2⟩
    have hn1 : ∀ b, F 1 b → ¬ U F2 b := fun b hb ⟨k, hk⟩ => by have := hw.dis 0 1 b (hconv k b hk).2 hb; omega
    have hr := setH_lend w (F 1) (U F) (U F2) hset h2 hn1 (fun b hb => hw.bd 1 b hb)
    obtain ⟨_, _, _, htab⟩ := setH_iff.1 hset
    have hw2 : Wf F2 w := ⟨fun i j b hi hj => by rw [(hconv i b hi).1, (hconv j b hj).1], fun k b hk => hw.bd 0 b (hconv k b hk).2⟩
    refine (hc w F2 (u :: us) hw2 (fun k b hk => by have := (hconv k b hk).1; omega) ⟨hr, PVt.mono (Ev.less w h2) hv.2⟩ (fun i k hi => by
      match i, hi with
      | 0, hi => simp at hi; subst hi; exact ⟨fun b hb => by simp [F2] at hb, PV.mono _ (Ev.less w h2) htab⟩)).mono ?_
    rintro e w' ⟨t, F', rfl, a1, a2, a3, a4, a5⟩
    have hnew := a5 0 _ rfl
    have hfresh : ∀ b, F' 1 b → w.heap.size ≤ b := fun b hb => by
      rcases a2.fnew 1 (by simp) b hb with ⟨k, hk, hkb⟩ | h
      · simp at hk; subst hk; simp [F2] at hkb
      · exact h
    have hkeep : ∀ b, b < w.heap.size → w'.heap[b]? = w.heap[b]? := fun b hb => a2.keep b hb (fun k hk hkb => by simp at hk; subst hk; simp [F2] at hkb)
    let F3 : Fp := fun k => if k = 0 then F 0 else if k = 1 then F 1 else if k = 2 then F' 1 else fun _ => False
    have e0 : F3 0 = F 0 := by simp [F3]
    have e1 : F3 1 = F 1 := by simp [F3]
    have e2 : F3 2 = F' 1 := by simp [F3]
    have hF3 : ∀ k b, F3 k b → (k = 0 ∧ F 0 b) ∨ (k = 1 ∧ F 1 b) ∨ (k = 2 ∧ F' 1 b) := fun k b hk => by
      by_cases c0 : k = 0
      · subst c0; rw [e0] at hk; exact .inl ⟨rfl, hk⟩
      · by_cases c1 : k = 1
        · subst c1; rw [e1] at hk; exact .inr (.inl ⟨rfl, hk⟩)
        · by_cases c2 : k = 2
          · subst c2; rw [e2] at hk; exact .inr (.inr ⟨rfl, hk⟩)
          · simp [F3, c0, c1, c2] at hk
    have hw3 : Wf F3 w' := ⟨fun i j b hi hj => by
        rcases hF3 i b hi with ⟨rfl, h1⟩ | ⟨rfl, h1⟩ | ⟨rfl, h1⟩ <;> rcases hF3 j b hj with ⟨rfl, k1⟩ | ⟨rfl, k1⟩ | ⟨rfl, k1⟩
        · rfl
        · exact hw.dis 0 1 b h1 k1
        · have := hfresh b k1; have := hw.bd 0 b h1; omega
        · exact hw.dis 1 0 b h1 k1
        · rfl
        · have := hfresh b k1; have := hw.bd 1 b h1; omega
        · have := hfresh b h1; have := hw.bd 0 b k1; omega
        · have := hfresh b h1; have := hw.bd 1 b k1; omega
        · rfl, fun k b hk => by
        rcases hF3 k b hk with ⟨_, h1⟩ | ⟨_, h1⟩ | ⟨_, h1⟩
        · exact Nat.lt_of_lt_of_le (hw.bd 0 b h1) a2.size
        · exact Nat.lt_of_lt_of_le (hw.bd 1 b h1) a2.size
        · exact a1.bd 1 b h1⟩
    have hev : Ev w (U F) w' (U F3) := ⟨a2.os, a2.tape, a2.output, a2.size, fun b hb hnb => ⟨hkeep b hb, fun ⟨k, hk⟩ => hnb (by
      rcases hF3 k b hk with ⟨_, h1⟩ | ⟨_, h1⟩ | ⟨_, h1⟩
      · exact ⟨0, h1⟩
      · exact ⟨1, h1⟩
      · have := hfresh b h1; omega)⟩⟩
    have hst3 : Stp (List.range' 1 2) w F w' F3 := ⟨a2.os, a2.tape, a2.output, a2.size, fun b hb _ => hkeep b hb, fun k hk => by
        simp at hk
        by_cases c0 : k = 0
        · subst c0; exact e0
        · funext b
          refine propext ⟨fun h => ?_, fun h => ?_⟩
          · rcases hF3 k b h with ⟨c, _⟩ | ⟨c, _⟩ | ⟨c, _⟩ <;> omega
          · have := hle k b h; omega, fun k hk b hb => by
        rcases hF3 k b hb with ⟨c, h1⟩ | ⟨c, h1⟩ | ⟨c, h1⟩
        · subst c; simp at hk
        · exact .inl ⟨1, by simp, h1⟩
        · exact .inr (hfresh b h1)⟩
    refine ⟨t, F3, rfl, hw3, hst3, fun k b hk => by rcases hF3 k b hk with ⟨c, _⟩ | ⟨c, _⟩ | ⟨c, _⟩ <;> omega, a4, fun i k hi => ?_⟩
    match i, hi with
    | 0, hi =>
      simp at hi; subst hi
      obtain ⟨ws, k1, k2, k3⟩ := setH_iff.1 hset
      rw [show (0 : Nat) + 1 = 1 from rfl, e1]
      exact setH_iff.2 ⟨ws, k1, (bitsH _ n ws).st hev (fun b hb => hkeep b (hw.bd 1 b hb)) k2, tabP.mono hev k3⟩
    | 1, hi =>
      simp at hi; subst hi
      obtain ⟨ws', g1, g2, g3⟩ := setH_iff.1 hnew
      rw [show (1 : Nat) + 1 = 2 from rfl, e2]
      exact setH_iff.2 ⟨ws', g1, bitsH_free _ _ _ _ _ _ _ g2, tabP.mono hev htab⟩
/-- .. that needs none: what is made is not kept. -/
theorem FnG.newPg {f : FuncId} {args : List PV} {q : PV} {m : Nat} {z : List Int} (hc : FnG Tryd.prog f 1 args [gH tabP tabV] q (fun u => [setH u m z])) : FnPg Tryd.prog tabP tabV f args (setR m z) := fun w y vs hy htab hv => by
  let F2 : Fp := fun k => if k = 0 then y else fun _ => False
  have hU : U F2 = y := by
    funext b
    refine propext ⟨?_, fun h => ⟨0, by simpa [F2] using h⟩⟩
    rintro ⟨k, hk⟩
    by_cases e : k = 0
    · subst e; simpa [F2] using hk
    · simp [F2, e] at hk
  have h0 : ∀ k b, F2 k b → k = 0 := fun k b hk => by
    by_cases e : k = 0
    · exact e
    · simp [F2, e] at hk
  refine (hc w F2 vs ⟨fun i j b hi hj => by rw [h0 i b hi, h0 j b hj], fun k b hk => hy b (by rw [← hU]; exact ⟨k, hk⟩)⟩ (fun k b hk => by have := h0 k b hk; omega) (by rw [hU]; exact hv) (fun i k hi => by
    match i, hi with
    | 0, hi => simp at hi; subst hi; exact ⟨fun b hb => by simp [F2] at hb, by rw [hU]; exact htab⟩)).mono ?_
  rintro e w' ⟨t, F', rfl, a1, a2, a3, a4, a5⟩
  have hnew := a5 0 _ rfl
  have hfresh : ∀ b, F' 1 b → w.heap.size ≤ b := fun b hb => by
    rcases a2.fnew 1 (by simp) b hb with ⟨k, hk, hkb⟩ | h
    · simp at hk; subst hk; simp [F2] at hkb
    · exact h
  have hkeep : ∀ b, b < w.heap.size → w'.heap[b]? = w.heap[b]? := fun b hb => a2.keep b hb (fun k hk hkb => by simp at hk; subst hk; simp [F2] at hkb)
  exact ⟨t, rfl, setH_lend w' (F' 1) _ y hnew (fun b hb => ⟨0, by rw [a2.fkeep 0 (by simp)]; simpa [F2] using hb⟩) (fun b hb hby => by have := hfresh b hb; have := hy b hby; omega) (fun b hb => a1.bd 1 b hb), ⟨a2.os, a2.tape, a2.output, a2.size, hkeep⟩⟩
structure DeedR where
  kind : Int
  other : Bool
  i : Int
  on : Bool
  deriving DecidableEq, Inhabited
def rDeedR (d : DeedR) : List PV := [.int .i64 d.kind, .bool d.other, .int .i64 d.i, .bool d.on]
def newL (n : Int) (x z : List Int) (d : DeedR) : List Int := if d.kind = 0 ∨ d.kind = 1 then putL x n d.i d.on else if d.kind = 2 then orL x n z else if d.kind = 3 then minusL x z else if d.kind = 4 then andL x z else if d.kind = 5 then movedL x n d.i else if d.kind = 6 then (if d.on then [] else x) else x
def chgL (n : Int) (x z : List Int) (d : DeedR) : Bool := if d.kind = 0 ∨ d.kind = 1 ∨ d.kind = 2 ∨ d.kind = 3 ∨ d.kind = 4 then !decide (x = newL n x z d) else if d.kind = 6 then (d.on && decide (0 < (x.length : Int))) else false

theorem copy_g (v : Value) (n : Nat) (x : List Int) : FnG Tryd.prog 48 1 [.is v] [setH v n x] (setR n (x)) (fun _ => [setH v n x]) := FnG.readNew (copy_c n x)
theorem copy_n (v : Value) (n : Nat) (x : List Int) : FnG Tryd.prog 48 2 [.is v] [setH v n x, HP.star []] PV.ptr (fun u => [setH v n x, setH u n (x)]) := FnG.readNewG (copy_c n x)
theorem copy_p (n : Nat) (x : List Int) : FnP Tryd.prog 48 [setR n x] (setR n (x)) := FnG.readNewP (copy_c n x)

theorem copy_nilP : FnPg Tryd.prog tabP tabV 48 [.is (.pointer none)] (setR 0 []) := FnG.newPg copy_nil

theorem or_self2 (b n : Nat) (x : List Int) : FnG Tryd.prog 49 1 [.is (.pointer (some ⟨b, 0, none⟩)), .is (.pointer (some ⟨b, 0, none⟩))] [setH (.pointer (some ⟨b, 0, none⟩)) n x] (.bool false) (fun _ => [setH (.pointer (some ⟨b, 0, none⟩)) n x]) := FnG.ofWords fun ws hs => by
  have k := hs.or hs
  rw [orL_self hs.up] at k
  exact ⟨_, k, by have := hs.same k; rw [show false = !decide (x = x) by simp, ← this]; exact orW_self b n ws⟩

theorem and_self2 (b n : Nat) (x : List Int) : FnG Tryd.prog 80 1 [.is (.pointer (some ⟨b, 0, none⟩)), .is (.pointer (some ⟨b, 0, none⟩))] [setH (.pointer (some ⟨b, 0, none⟩)) n x] (.bool false) (fun _ => [setH (.pointer (some ⟨b, 0, none⟩)) n x]) := FnG.ofWords fun ws hs => by
  have k := hs.and hs
  rw [andL_self x] at k
  exact ⟨_, k, by have := hs.same k; rw [show false = !decide (x = x) by simp, ← this]; exact andW_self b n ws⟩

end Go.Proofs.YtpahapjcdldodaaDoor
