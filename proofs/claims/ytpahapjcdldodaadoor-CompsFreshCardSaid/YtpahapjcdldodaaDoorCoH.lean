/- The components: from the contract to the given card. No condition. -/
import Derived.Test.YtpahapjcdldodaaDoorCoG
import Derived.Test.YtpahapjcdldodaaDoorLibY
import Derived.Test.YtpahapjcdldodaaDoorTie
import Derived.Test.YtpahapjcdldodaaDoorCards
import Derived.Lay
import Derived.MakeChecks
namespace Go.Proofs.YtpahapjcdldodaaDoor
open Go Go.Gm Go.ChangeShapes Go.WideShapes Go.ChangeAt Go.RowKit Go.WideElems Go.WideMaps
set_option linter.unusedVariables false
theorem reads_deed4 : Reads Tryd.prog 55 rDeed4 := (reads_struct (tot := 3) Tryd.underlying55 (by kernel_rfl) (readsF_cons (k := 1) (by kernel_rfl) (by kernel_rfl) (reads_int Tryd.underlying3) (readsF_cons (k := 1) (by kernel_rfl) (by kernel_rfl) (reads_int Tryd.underlying3) (readsF_cons (k := 1) (by kernel_rfl) (by kernel_rfl) (reads_int Tryd.underlying3) readsF_nil)))).map (fun p => (⟨p.1, p.2.1, p.2.2.1⟩ : Deed4)) (fun _ => rfl)

def laidL : List (String × DataW Unit) := [("math/bits.deBruijn64tab", Rows.laid_math_bits_deBruijn64tab)]
theorem gTab : Tryd.prog.globalNamed "math/bits.deBruijn64tab" = some 0 := by kernel_rfl
theorem tTab : (Tryd.prog.globals[0]?).map (·.type) = some 116 := by kernel_rfl
theorem door_met (os : Os) (args : Array Value) : laidMetH Tryd.prog laidL ((World.doorLaid Tryd.prog 19 os).forCall (fun _ _ => 0) ⟨#[], args, []⟩).memory :=
  laidMetH_of_parts3 (fuel := 8) (laidMet_of_run' 8 (by kernel_rfl) (by kernel_rfl)) (by kernel_rfl) (by kernel_rfl)
theorem of_laid {W : World} (h : laidMetH Tryd.prog laidL W) : (PV.ref (deBrI.map fun c => PV.int .u8 c)).p (.pointer (some ⟨0, 0, none⟩)) W noY := by
  rw [MakeChecks.laidMetH_plain _ _ _ (by kernel_rfl)] at h
  obtain ⟨ps, ⟨g0, t0, cs0, f0, p0, q0, hg0, ht0, hv0, hd0, _, _⟩, _⟩ := h
  obtain rfl := Option.some.inj (gTab.symm.trans hg0)
  obtain rfl := Option.some.inj (tTab.symm.trans ht0)
  obtain ⟨h1, h2⟩ := table_cells (tab := deBrI) Tryd.underlying116 Tryd.underlying5 (by kernel_rfl) (by kernel_rfl) rfl hd0
  exact table_ref gTab hv0 h1 h2 (by decide)

theorem compsPlays_own : ownKnob Tryd.prog.godebug = none := by kernel_rfl
theorem compsPlays_laid : laidOutB Tryd.prog = true := by kernel_rfl
theorem compsPlays_types : ∀ t ∈ Tryd.f5.params.toList, Tryd.prog.readableRec t = true ∧ t < Tryd.prog.types.size := by
  have h : (Tryd.f5.params.toList.all fun t => Tryd.prog.readableRec t && Nat.blt t Tryd.prog.types.size) = true := by kernel_rfl
  intro t ht
  have := List.all_eq_true.1 h t ht
  simp only [Bool.and_eq_true, Nat.blt_eq] at this
  exact this
set_option maxRecDepth 100000 in
theorem compsPlays_lifted (os : Os) (started : os.Started) (H : Type) (enc : TypeId × Value → H) :
    ReturnsInHanded {} Tryd.checked os 5 .any (fun w args => (Rows.compsPlaysSpec.pre enc Tryd.prog Tryd.f5 [] false w args ∧ laidMetH Tryd.prog laidL w) ∧ sizedMet enc Tryd.prog Tryd.f5 (OpenSpec.ofChange Rows.compsPlaysSpec) false w args)
      (Rows.compsPlaysSpec.post enc Tryd.prog Tryd.f5 false true false false) := by
  refine returnsInHanded_of_change_and (C := Tryd.checked) (X := fun w _ => laidMetH Tryd.prog laidL w) (fun _ _ _ hh h => h.of_heap hh) compsPlays_own started (by kernel_rfl) Tryd.func5
    (ChangeSpec.witness_shaped (enc := enc) (C := Tryd.checked) (os := os) (X := fun w _ => laidMetH Tryd.prog laidL w) false (World.doorLaid Tryd.prog 19 os) #[.int .i64 0, .slice none 0 0] 8 rfl (World.shaped_of_RefB (by kernel_rfl) (by kernel_rfl)) (by kernel_rfl) (by kernel_rfl) (by kernel_rfl) (door_met os _)) ?_
  intro W base args ds gs before hval hW _ _ hL _
  have hA := (argsR_cons (argR_one (by kernel_rfl) (reads_int Tryd.underlying3)) (argsR_cons (argR_one (by kernel_rfl) (reads_slice Tryd.underlying50 (by kernel_rfl) reads_deed4)) (argsR_nil (P := Tryd.prog))))
  exact law_contract_g (P := Tryd.prog) (fn := Tryd.f5) (s := Rows.compsPlaysSpec) compsPlays_laid compsPlays_types hA (by rw [Tryd.params5]) (fun b => coplays_c b.1 b.2.1) rfl (by kernel_rfl) Tryd.underlying4
    (fun H ds h => by
      rw [Tryd.params5] at h
      match ds, h with
      | [d0, d1], _ => rfl) H enc W base args ds gs before (of_laid hL) hval hW
theorem compsPlays_over : Rows.CompsPlaysSaid :=
  OpenClaim.holds_of_wide 5 Tryd.f5 rfl rfl rfl rfl rfl rfl rfl ⟨rfl, rfl, rfl, rfl, rfl⟩ rfl rfl rfl rfl rfl (by kernel_rfl) Tryd.func5 (by kernel_rfl)
    (of_decide_eq_true (by kernel_rfl)) (by unfold Func.isWrapper; first | (rw [if_pos (by decide +kernel)]; kernel_rfl) | (rw [if_neg (by decide +kernel)]; exact ⟨rfl, rfl⟩))
    (fun os started H enc _ => compsPlays_lifted os started H enc)
/-- The given statement. -/
theorem compsPlays_proved : Rows.CompsPlaysCardSaid :=
  Claim7.holds_tied_plain_at .later [] [.data] true (true, "6961f7cada38c9c9911df68423e02c997f36cc4bf4cef1e89a78e6375edcb2ad") false
    compsPlays_over (fun _ h => by cases h) (by kernel_rfl) (fun _ h => by cases h) compsPlays_row_tie rfl ⟨rfl, rfl⟩ (by kernel_rfl) rfl
    (fun f fn hf hfn => by
      obtain rfl : f = 5 := Option.some.inj ((show Tryd.prog.funcNamed "tenter/tenterlaw25.CompsPlays" = some 5 by kernel_rfl).symm.trans hf) |>.symm
      obtain rfl : fn = Tryd.f5 := (Option.some.inj (Tryd.func5.symm.trans hfn)).symm
      exact ⟨by kernel_rfl, fun j t ht => by
        rw [Tryd.params5] at ht
        have hm : t ∈ [3, 50] := by simpa using Array.mem_of_getElem? ht
        have hall : ([3, 50].all fun u => !Tryd.prog.wantsStandIn u) = true := by kernel_rfl
        exact (show Tryd.prog.wantsStandIn t = false by simpa using List.all_eq_true.1 hall t hm)⟩)
    (by kernel_rfl)

theorem compsFresh_own : ownKnob Tryd.prog.godebug = none := by kernel_rfl
theorem compsFresh_laid : laidOutB Tryd.prog = true := by kernel_rfl
theorem compsFresh_types : ∀ t ∈ Tryd.f6.params.toList, Tryd.prog.readableRec t = true ∧ t < Tryd.prog.types.size := by
  have h : (Tryd.f6.params.toList.all fun t => Tryd.prog.readableRec t && Nat.blt t Tryd.prog.types.size) = true := by kernel_rfl
  intro t ht
  have := List.all_eq_true.1 h t ht
  simp only [Bool.and_eq_true, Nat.blt_eq] at this
  exact this
set_option maxRecDepth 100000 in
theorem compsFresh_lifted (os : Os) (started : os.Started) (H : Type) (enc : TypeId × Value → H) :
    ReturnsInHanded {} Tryd.checked os 6 .any (fun w args => (Rows.compsFreshSpec.pre enc Tryd.prog Tryd.f6 [] false w args ∧ laidMetH Tryd.prog laidL w) ∧ sizedMet enc Tryd.prog Tryd.f6 (OpenSpec.ofChange Rows.compsFreshSpec) false w args)
      (Rows.compsFreshSpec.post enc Tryd.prog Tryd.f6 false true false false) := by
  refine returnsInHanded_of_change_and (C := Tryd.checked) (X := fun w _ => laidMetH Tryd.prog laidL w) (fun _ _ _ hh h => h.of_heap hh) compsFresh_own started (by kernel_rfl) Tryd.func6
    (ChangeSpec.witness_shaped (enc := enc) (C := Tryd.checked) (os := os) (X := fun w _ => laidMetH Tryd.prog laidL w) false (World.doorLaid Tryd.prog 19 os) #[.int .i64 0, .slice none 0 0, .slice none 0 0] 8 rfl (World.shaped_of_RefB (by kernel_rfl) (by kernel_rfl)) (by kernel_rfl) (by kernel_rfl) (by kernel_rfl) (door_met os _)) ?_
  intro W base args ds gs before hval hW _ _ hL _
  have hA := (argsR_cons (argR_one (by kernel_rfl) (reads_int Tryd.underlying3)) (argsR_cons (argR_one (by kernel_rfl) (reads_slice Tryd.underlying50 (by kernel_rfl) reads_deed4)) (argsR_cons (argR_one (by kernel_rfl) (reads_slice Tryd.underlying50 (by kernel_rfl) reads_deed4)) (argsR_nil (P := Tryd.prog)))))
  exact law_contract_g (P := Tryd.prog) (fn := Tryd.f6) (s := Rows.compsFreshSpec) compsFresh_laid compsFresh_types hA (by rw [Tryd.params6]) (fun b => cofresh_c b.1 b.2.1 b.2.2.1) rfl (by kernel_rfl) Tryd.underlying4
    (fun H ds h => by
      rw [Tryd.params6] at h
      match ds, h with
      | [d0, d1, d2], _ => rfl) H enc W base args ds gs before (of_laid hL) hval hW
theorem compsFresh_over : Rows.CompsFreshSaid :=
  OpenClaim.holds_of_wide 6 Tryd.f6 rfl rfl rfl rfl rfl rfl rfl ⟨rfl, rfl, rfl, rfl, rfl⟩ rfl rfl rfl rfl rfl (by kernel_rfl) Tryd.func6 (by kernel_rfl)
    (of_decide_eq_true (by kernel_rfl)) (by unfold Func.isWrapper; first | (rw [if_pos (by decide +kernel)]; kernel_rfl) | (rw [if_neg (by decide +kernel)]; exact ⟨rfl, rfl⟩))
    (fun os started H enc _ => compsFresh_lifted os started H enc)
/-- The given statement. -/
theorem compsFresh_proved : Rows.CompsFreshCardSaid :=
  Claim7.holds_tied_plain_at .later [] [.data] true (true, "6961f7cada38c9c9911df68423e02c997f36cc4bf4cef1e89a78e6375edcb2ad") false
    compsFresh_over (fun _ h => by cases h) (by kernel_rfl) (fun _ h => by cases h) compsFresh_row_tie rfl ⟨rfl, rfl⟩ (by kernel_rfl) rfl
    (fun f fn hf hfn => by
      obtain rfl : f = 6 := Option.some.inj ((show Tryd.prog.funcNamed "tenter/tenterlaw25.CompsFresh" = some 6 by kernel_rfl).symm.trans hf) |>.symm
      obtain rfl : fn = Tryd.f6 := (Option.some.inj (Tryd.func6.symm.trans hfn)).symm
      exact ⟨by kernel_rfl, fun j t ht => by
        rw [Tryd.params6] at ht
        have hm : t ∈ [3, 50, 50] := by simpa using Array.mem_of_getElem? ht
        have hall : ([3, 50, 50].all fun u => !Tryd.prog.wantsStandIn u) = true := by kernel_rfl
        exact (show Tryd.prog.wantsStandIn t = false by simpa using List.all_eq_true.1 hall t hm)⟩)
    (by kernel_rfl)

end Go.Proofs.YtpahapjcdldodaaDoor
