/- Slots: from the contract to the given card. No condition. -/
import Derived.Test.YtdfpljecogijaaaDoorSl6
import Derived.Test.YtdfpljecogijaaaDoorLibY
import Derived.Test.YtdfpljecogijaaaDoorTie
import Derived.Test.YtdfpljecogijaaaDoorCards
import Derived.Lay
import Derived.MakeChecks
namespace Go.Proofs.YtdfpljecogijaaaDoor
open Go Go.Gm Go.ChangeShapes Go.WideShapes Go.ChangeAt Go.RowKit Go.WideElems Go.WideMaps
set_option linter.unusedVariables false

def laidL : List (String × DataW Unit) := [("math/bits.deBruijn64tab", Rows.laid_math_bits_deBruijn64tab)]
theorem gTab : Tryd.prog.globalNamed "math/bits.deBruijn64tab" = some 0 := by kernel_rfl
theorem tTab : (Tryd.prog.globals[0]?).map (·.type) = some 119 := by kernel_rfl
theorem door_met (os : Os) (args : Array Value) : laidMetH Tryd.prog laidL ((World.doorLaid Tryd.prog 19 os).forCall (fun _ _ => 0) ⟨#[], args, []⟩).memory :=
  laidMetH_of_parts3 (fuel := 8) (laidMet_of_run' 8 (by kernel_rfl) (by kernel_rfl)) (by kernel_rfl) (by kernel_rfl)
theorem of_laid {W : World} (h : laidMetH Tryd.prog laidL W) : (PV.ref (deBrI.map fun c => PV.int .u8 c)).p (.pointer (some ⟨0, 0, none⟩)) W noY := by
  rw [MakeChecks.laidMetH_plain _ _ _ (by kernel_rfl)] at h
  obtain ⟨ps, ⟨g0, t0, cs0, f0, p0, q0, hg0, ht0, hv0, hd0, _, _⟩, _⟩ := h
  obtain rfl := Option.some.inj (gTab.symm.trans hg0)
  obtain rfl := Option.some.inj (tTab.symm.trans ht0)
  obtain ⟨h1, h2⟩ := table_cells (tab := deBrI) Tryd.underlying119 Tryd.underlying5 (by kernel_rfl) (by kernel_rfl) rfl hd0
  exact table_ref gTab hv0 h1 h2 (by decide)

theorem slotsPlays_own : ownKnob Tryd.prog.godebug = none := by kernel_rfl
theorem slotsPlays_laid : laidOutB Tryd.prog = true := by kernel_rfl
theorem slotsPlays_types : ∀ t ∈ Tryd.f3.params.toList, Tryd.prog.readableRec t = true ∧ t < Tryd.prog.types.size := by
  have h : (Tryd.f3.params.toList.all fun t => Tryd.prog.readableRec t && Nat.blt t Tryd.prog.types.size) = true := by kernel_rfl
  intro t ht
  have := List.all_eq_true.1 h t ht
  simp only [Bool.and_eq_true, Nat.blt_eq] at this
  exact this
set_option maxRecDepth 100000 in
theorem slotsPlays_lifted (os : Os) (started : os.Started) (H : Type) (enc : TypeId × Value → H) :
    ReturnsInHanded {} Tryd.checked os 3 .any (fun w args => (Rows.slotsPlaysSpec.pre enc Tryd.prog Tryd.f3 [] false w args ∧ laidMetH Tryd.prog laidL w) ∧ sizedMet enc Tryd.prog Tryd.f3 (OpenSpec.ofChange Rows.slotsPlaysSpec) false w args)
      (Rows.slotsPlaysSpec.post enc Tryd.prog Tryd.f3 false true false false) := by
  refine returnsInHanded_of_change_and (C := Tryd.checked) (X := fun w _ => laidMetH Tryd.prog laidL w) (fun _ _ _ hh h => h.of_heap hh) slotsPlays_own started (by kernel_rfl) Tryd.func3
    (ChangeSpec.witness_shaped (enc := enc) (C := Tryd.checked) (os := os) (X := fun w _ => laidMetH Tryd.prog laidL w) false (World.doorLaid Tryd.prog 19 os) #[.int .i64 0, .slice none 0 0, .int .i64 0] 8 rfl (World.shaped_of_RefB (by kernel_rfl) (by kernel_rfl)) (by kernel_rfl) (by kernel_rfl) (by kernel_rfl) (door_met os _)) ?_
  intro W base args ds gs before hval hW _ _ hL _
  have hA := (argsR_cons (argR_one (by kernel_rfl) (reads_int Tryd.underlying3)) (argsR_cons (argR_one (by kernel_rfl) (reads_slice (R := rInt) Tryd.underlying22 (by kernel_rfl) (reads_int Tryd.underlying3))) (argsR_cons (argR_one (by kernel_rfl) (reads_int Tryd.underlying3)) (argsR_nil (P := Tryd.prog)))))
  exact law_contract_g (P := Tryd.prog) (fn := Tryd.f3) (s := Rows.slotsPlaysSpec) slotsPlays_laid slotsPlays_types hA (by rw [Tryd.params3]) (fun b => splays_c b.1 b.2.1 b.2.2.1) rfl (by kernel_rfl) Tryd.underlying4
    (fun H ds h => by
      rw [Tryd.params3] at h
      match ds, h with
      | [d0, d1, d2], _ => rfl) H enc W base args ds gs before (of_laid hL) hval hW
theorem slotsPlays_over : Rows.SlotsPlaysSaid :=
  OpenClaim.holds_of_wide 3 Tryd.f3 rfl rfl rfl rfl rfl rfl rfl ⟨rfl, rfl, rfl, rfl, rfl⟩ rfl rfl rfl rfl rfl (by kernel_rfl) Tryd.func3 (by kernel_rfl)
    (of_decide_eq_true (by kernel_rfl)) (by unfold Func.isWrapper; first | (rw [if_pos (by decide +kernel)]; kernel_rfl) | (rw [if_neg (by decide +kernel)]; exact ⟨rfl, rfl⟩))
    (fun os started H enc _ => slotsPlays_lifted os started H enc)
/-- The given statement. -/
theorem slotsPlays_proved : Rows.SlotsPlaysCardSaid :=
  Claim7.holds_tied_plain_at .later [] [.data] true (true, "952386aff361fd623486533bae2715e378b37e7ed31fefbf78a8e842049aac97") false
    slotsPlays_over (fun _ h => by cases h) (by kernel_rfl) (fun _ h => by cases h) slotsPlays_row_tie rfl ⟨rfl, rfl⟩ (by kernel_rfl) rfl
    (fun f fn hf hfn => by
      obtain rfl : f = 3 := Option.some.inj ((show Tryd.prog.funcNamed "tenter/tenterlaw21.SlotsPlays" = some 3 by kernel_rfl).symm.trans hf) |>.symm
      obtain rfl : fn = Tryd.f3 := (Option.some.inj (Tryd.func3.symm.trans hfn)).symm
      exact ⟨by kernel_rfl, fun j t ht => by
        rw [Tryd.params3] at ht
        have hm : t ∈ [3, 22, 3] := by simpa using Array.mem_of_getElem? ht
        have hall : ([3, 22, 3].all fun u => !Tryd.prog.wantsStandIn u) = true := by kernel_rfl
        exact (show Tryd.prog.wantsStandIn t = false by simpa using List.all_eq_true.1 hall t hm)⟩)
    (by kernel_rfl)

theorem slotsDense_own : ownKnob Tryd.prog.godebug = none := by kernel_rfl
theorem slotsDense_laid : laidOutB Tryd.prog = true := by kernel_rfl
theorem slotsDense_types : ∀ t ∈ Tryd.f4.params.toList, Tryd.prog.readableRec t = true ∧ t < Tryd.prog.types.size := by
  have h : (Tryd.f4.params.toList.all fun t => Tryd.prog.readableRec t && Nat.blt t Tryd.prog.types.size) = true := by kernel_rfl
  intro t ht
  have := List.all_eq_true.1 h t ht
  simp only [Bool.and_eq_true, Nat.blt_eq] at this
  exact this
set_option maxRecDepth 100000 in
theorem slotsDense_lifted (os : Os) (started : os.Started) (H : Type) (enc : TypeId × Value → H) :
    ReturnsInHanded {} Tryd.checked os 4 .any (fun w args => (Rows.slotsDenseSpec.pre enc Tryd.prog Tryd.f4 [] false w args ∧ laidMetH Tryd.prog laidL w) ∧ sizedMet enc Tryd.prog Tryd.f4 (OpenSpec.ofChange Rows.slotsDenseSpec) false w args)
      (Rows.slotsDenseSpec.post enc Tryd.prog Tryd.f4 false true false false) := by
  refine returnsInHanded_of_change_and (C := Tryd.checked) (X := fun w _ => laidMetH Tryd.prog laidL w) (fun _ _ _ hh h => h.of_heap hh) slotsDense_own started (by kernel_rfl) Tryd.func4
    (ChangeSpec.witness_shaped (enc := enc) (C := Tryd.checked) (os := os) (X := fun w _ => laidMetH Tryd.prog laidL w) false (World.doorLaid Tryd.prog 19 os) #[.int .i64 0, .slice none 0 0] 8 rfl (World.shaped_of_RefB (by kernel_rfl) (by kernel_rfl)) (by kernel_rfl) (by kernel_rfl) (by kernel_rfl) (door_met os _)) ?_
  intro W base args ds gs before hval hW _ _ hL _
  have hA := (argsR_cons (argR_one (by kernel_rfl) (reads_int Tryd.underlying3)) (argsR_cons (argR_one (by kernel_rfl) (reads_slice (R := rInt) Tryd.underlying22 (by kernel_rfl) (reads_int Tryd.underlying3))) (argsR_nil (P := Tryd.prog))))
  exact law_contract_g (P := Tryd.prog) (fn := Tryd.f4) (s := Rows.slotsDenseSpec) slotsDense_laid slotsDense_types hA (by rw [Tryd.params4]) (fun b => sdense_c b.1 b.2.1) rfl (by kernel_rfl) Tryd.underlying4
    (fun H ds h => by
      rw [Tryd.params4] at h
      match ds, h with
      | [d0, d1], _ => rfl) H enc W base args ds gs before (of_laid hL) hval hW
theorem slotsDense_over : Rows.SlotsDenseSaid :=
  OpenClaim.holds_of_wide 4 Tryd.f4 rfl rfl rfl rfl rfl rfl rfl ⟨rfl, rfl, rfl, rfl, rfl⟩ rfl rfl rfl rfl rfl (by kernel_rfl) Tryd.func4 (by kernel_rfl)
    (of_decide_eq_true (by kernel_rfl)) (by unfold Func.isWrapper; first | (rw [if_pos (by decide +kernel)]; kernel_rfl) | (rw [if_neg (by decide +kernel)]; exact ⟨rfl, rfl⟩))
    (fun os started H enc _ => slotsDense_lifted os started H enc)
/-- The given statement. -/
theorem slotsDense_proved : Rows.SlotsDenseCardSaid :=
  Claim7.holds_tied_plain_at .later [] [.data] true (true, "952386aff361fd623486533bae2715e378b37e7ed31fefbf78a8e842049aac97") false
    slotsDense_over (fun _ h => by cases h) (by kernel_rfl) (fun _ h => by cases h) slotsDense_row_tie rfl ⟨rfl, rfl⟩ (by kernel_rfl) rfl
    (fun f fn hf hfn => by
      obtain rfl : f = 4 := Option.some.inj ((show Tryd.prog.funcNamed "tenter/tenterlaw21.SlotsDense" = some 4 by kernel_rfl).symm.trans hf) |>.symm
      obtain rfl : fn = Tryd.f4 := (Option.some.inj (Tryd.func4.symm.trans hfn)).symm
      exact ⟨by kernel_rfl, fun j t ht => by
        rw [Tryd.params4] at ht
        have hm : t ∈ [3, 22] := by simpa using Array.mem_of_getElem? ht
        have hall : ([3, 22].all fun u => !Tryd.prog.wantsStandIn u) = true := by kernel_rfl
        exact (show Tryd.prog.wantsStandIn t = false by simpa using List.all_eq_true.1 hall t hm)⟩)
    (by kernel_rfl)

end Go.Proofs.YtdfpljecogijaaaDoor
