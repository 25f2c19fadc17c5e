/- The closure: from the contract to the given card. No condition. -/
import Derived.Test.YtpahapjcdldodaaDoorCkF
import Derived.Test.YtpahapjcdldodaaDoorLibY
import Derived.Test.YtpahapjcdldodaaDoorTie
import Derived.Test.YtpahapjcdldodaaDoorCards
import Derived.Lay
import Derived.MakeChecks
namespace Go.Proofs.YtpahapjcdldodaaDoor
open Go Go.Gm Go.ChangeShapes Go.WideShapes Go.ChangeAt Go.RowKit Go.WideElems Go.WideMaps
set_option linter.unusedVariables false
theorem reads_deed4 : Reads Tryd.prog 32 rDeed4 := (reads_struct (tot := 3) Tryd.underlying32 (by kernel_rfl) (readsF_cons (k := 1) (by kernel_rfl) (by kernel_rfl) (reads_int Tryd.underlying3) (readsF_cons (k := 1) (by kernel_rfl) (by kernel_rfl) (reads_int Tryd.underlying3) (readsF_cons (k := 1) (by kernel_rfl) (by kernel_rfl) (reads_int Tryd.underlying3) readsF_nil)))).map (fun p => (⟨p.1, p.2.1, p.2.2.1⟩ : Deed4)) (fun _ => rfl)
theorem reads_pair : Reads Tryd.prog 48 rPair := (reads_struct (tot := 2) Tryd.underlying48 (by kernel_rfl) (readsF_cons (k := 1) (by kernel_rfl) (by kernel_rfl) (reads_int Tryd.underlying3) (readsF_cons (k := 1) (by kernel_rfl) (by kernel_rfl) (reads_int Tryd.underlying3) readsF_nil))).map (fun p => (⟨p.1, p.2.1⟩ : PairD)) (fun _ => rfl)

def laidL : List (String × DataW Unit) := [("math/bits.deBruijn64tab", Rows.laid_math_bits_deBruijn64tab)]
theorem gTab : Tryd.prog.globalNamed "math/bits.deBruijn64tab" = some 0 := by kernel_rfl
theorem tTab : (Tryd.prog.globals[0]?).map (·.type) = some 116 := by kernel_rfl
theorem door_met (os : Os) (args : Array Value) : laidMetH Tryd.prog laidL ((World.doorLaid Tryd.prog 19 os).forCall (fun _ _ => 0) ⟨#[], args, []⟩).memory :=
  laidMetH_of_parts3 (fuel := 8) (laidMet_of_run' 8 (by kernel_rfl) (by kernel_rfl)) (by kernel_rfl) (by kernel_rfl)
theorem of_laid {W : World} (h : laidMetH Tryd.prog laidL W) : (PV.ref (deBrI.map fun c => PV.int .u8 c)).p (.pointer (some ⟨0, 0, none⟩)) W noY := by
  rw [MakeChecks.laidMetH_plain _ _ _ (by kernel_rfl)] at h
  obtain ⟨ps, ⟨g0, t0, cs0, f0, p0, q0, hg0, ht0, hv0, hd0, _, _⟩, _⟩ := h
  obtain rfl := Option.some.inj (gTab.symm.trans hg0)
  obtain rfl := Option.some.inj (tTab.symm.trans ht0)
  obtain ⟨h1, h2⟩ := table_cells (tab := deBrI) Tryd.underlying116 Tryd.underlying5 (by kernel_rfl) (by kernel_rfl) rfl hd0
  exact table_ref gTab hv0 h1 h2 (by decide)

theorem closurePlays_own : ownKnob Tryd.prog.godebug = none := by kernel_rfl
theorem closurePlays_laid : laidOutB Tryd.prog = true := by kernel_rfl
theorem closurePlays_types : ∀ t ∈ Tryd.f3.params.toList, Tryd.prog.readableRec t = true ∧ t < Tryd.prog.types.size := by
  have h : (Tryd.f3.params.toList.all fun t => Tryd.prog.readableRec t && Nat.blt t Tryd.prog.types.size) = true := by kernel_rfl
  intro t ht
  have := List.all_eq_true.1 h t ht
  simp only [Bool.and_eq_true, Nat.blt_eq] at this
  exact this
set_option maxRecDepth 100000 in
theorem closurePlays_lifted (os : Os) (started : os.Started) (H : Type) (enc : TypeId × Value → H) :
    ReturnsInHanded {} Tryd.checked os 3 .any (fun w args => (Rows.closurePlaysSpec.pre enc Tryd.prog Tryd.f3 [] false w args ∧ laidMetH Tryd.prog laidL w) ∧ sizedMet enc Tryd.prog Tryd.f3 (OpenSpec.ofChange Rows.closurePlaysSpec) false w args)
      (Rows.closurePlaysSpec.post enc Tryd.prog Tryd.f3 false true false false) := by
  refine returnsInHanded_of_change_and (C := Tryd.checked) (X := fun w _ => laidMetH Tryd.prog laidL w) (fun _ _ _ hh h => h.of_heap hh) closurePlays_own started (by kernel_rfl) Tryd.func3
    (ChangeSpec.witness_shaped (enc := enc) (C := Tryd.checked) (os := os) (X := fun w _ => laidMetH Tryd.prog laidL w) false (World.doorLaid Tryd.prog 19 os) #[.int .i64 0, .slice none 0 0] 8 rfl (World.shaped_of_RefB (by kernel_rfl) (by kernel_rfl)) (by kernel_rfl) (by kernel_rfl) (by kernel_rfl) (door_met os _)) ?_
  intro W base args ds gs before hval hW _ _ hL _
  have hA := (argsR_cons (argR_one (by kernel_rfl) (reads_int Tryd.underlying3)) (argsR_cons (argR_one (by kernel_rfl) (reads_slice Tryd.underlying22 (by kernel_rfl) reads_deed4)) (argsR_nil (P := Tryd.prog))))
  exact law_contract_g (P := Tryd.prog) (fn := Tryd.f3) (s := Rows.closurePlaysSpec) closurePlays_laid closurePlays_types hA (by rw [Tryd.params3]) (fun b => cplays_c b.1 b.2.1) rfl (by kernel_rfl) Tryd.underlying4
    (fun H ds h => by
      rw [Tryd.params3] at h
      match ds, h with
      | [d0, d1], _ => rfl) H enc W base args ds gs before (of_laid hL) hval hW
theorem closurePlays_over : Rows.ClosurePlaysSaid :=
  OpenClaim.holds_of_wide 3 Tryd.f3 rfl rfl rfl rfl rfl rfl rfl ⟨rfl, rfl, rfl, rfl, rfl⟩ rfl rfl rfl rfl rfl (by kernel_rfl) Tryd.func3 (by kernel_rfl)
    (of_decide_eq_true (by kernel_rfl)) (by unfold Func.isWrapper; first | (rw [if_pos (by decide +kernel)]; kernel_rfl) | (rw [if_neg (by decide +kernel)]; exact ⟨rfl, rfl⟩))
    (fun os started H enc _ => closurePlays_lifted os started H enc)
/-- The given statement. -/
theorem closurePlays_proved : Rows.ClosurePlaysCardSaid :=
  Claim7.holds_tied_plain_at .later [] [.data] true (true, "6961f7cada38c9c9911df68423e02c997f36cc4bf4cef1e89a78e6375edcb2ad") false
    closurePlays_over (fun _ h => by cases h) (by kernel_rfl) (fun _ h => by cases h) closurePlays_row_tie rfl ⟨rfl, rfl⟩ (by kernel_rfl) rfl
    (fun f fn hf hfn => by
      obtain rfl : f = 3 := Option.some.inj ((show Tryd.prog.funcNamed "tenter/tenterlaw24.ClosurePlays" = some 3 by kernel_rfl).symm.trans hf) |>.symm
      obtain rfl : fn = Tryd.f3 := (Option.some.inj (Tryd.func3.symm.trans hfn)).symm
      exact ⟨by kernel_rfl, fun j t ht => by
        rw [Tryd.params3] at ht
        have hm : t ∈ [3, 22] := by simpa using Array.mem_of_getElem? ht
        have hall : ([3, 22].all fun u => !Tryd.prog.wantsStandIn u) = true := by kernel_rfl
        exact (show Tryd.prog.wantsStandIn t = false by simpa using List.all_eq_true.1 hall t hm)⟩)
    (by kernel_rfl)

theorem closureWay_own : ownKnob Tryd.prog.godebug = none := by kernel_rfl
theorem closureWay_laid : laidOutB Tryd.prog = true := by kernel_rfl
theorem closureWay_types : ∀ t ∈ Tryd.f4.params.toList, Tryd.prog.readableRec t = true ∧ t < Tryd.prog.types.size := by
  have h : (Tryd.f4.params.toList.all fun t => Tryd.prog.readableRec t && Nat.blt t Tryd.prog.types.size) = true := by kernel_rfl
  intro t ht
  have := List.all_eq_true.1 h t ht
  simp only [Bool.and_eq_true, Nat.blt_eq] at this
  exact this
set_option maxRecDepth 100000 in
theorem closureWay_lifted (os : Os) (started : os.Started) (H : Type) (enc : TypeId × Value → H) :
    ReturnsInHanded {} Tryd.checked os 4 .any (fun w args => (Rows.closureWaySpec.pre enc Tryd.prog Tryd.f4 [] false w args ∧ laidMetH Tryd.prog laidL w) ∧ sizedMet enc Tryd.prog Tryd.f4 (OpenSpec.ofChange Rows.closureWaySpec) false w args)
      (Rows.closureWaySpec.post enc Tryd.prog Tryd.f4 false true false false) := by
  refine returnsInHanded_of_change_and (C := Tryd.checked) (X := fun w _ => laidMetH Tryd.prog laidL w) (fun _ _ _ hh h => h.of_heap hh) closureWay_own started (by kernel_rfl) Tryd.func4
    (ChangeSpec.witness_shaped (enc := enc) (C := Tryd.checked) (os := os) (X := fun w _ => laidMetH Tryd.prog laidL w) false (World.doorLaid Tryd.prog 19 os) #[.int .i64 0, .slice none 0 0, .slice none 0 0] 8 rfl (World.shaped_of_RefB (by kernel_rfl) (by kernel_rfl)) (by kernel_rfl) (by kernel_rfl) (by kernel_rfl) (door_met os _)) ?_
  intro W base args ds gs before hval hW _ _ hL _
  have hA := (argsR_cons (argR_one (by kernel_rfl) (reads_int Tryd.underlying3)) (argsR_cons (argR_one (by kernel_rfl) (reads_slice Tryd.underlying27 (by kernel_rfl) reads_pair)) (argsR_cons (argR_one (by kernel_rfl) (reads_slice Tryd.underlying27 (by kernel_rfl) reads_pair)) (argsR_nil (P := Tryd.prog)))))
  exact law_contract_g (P := Tryd.prog) (fn := Tryd.f4) (s := Rows.closureWaySpec) closureWay_laid closureWay_types hA (by rw [Tryd.params4]) (fun b => cway_c b.1 b.2.1 b.2.2.1) rfl (by kernel_rfl) Tryd.underlying4
    (fun H ds h => by
      rw [Tryd.params4] at h
      match ds, h with
      | [d0, d1, d2], _ => rfl) H enc W base args ds gs before (of_laid hL) hval hW
theorem closureWay_over : Rows.ClosureWaySaid :=
  OpenClaim.holds_of_wide 4 Tryd.f4 rfl rfl rfl rfl rfl rfl rfl ⟨rfl, rfl, rfl, rfl, rfl⟩ rfl rfl rfl rfl rfl (by kernel_rfl) Tryd.func4 (by kernel_rfl)
    (of_decide_eq_true (by kernel_rfl)) (by unfold Func.isWrapper; first | (rw [if_pos (by decide +kernel)]; kernel_rfl) | (rw [if_neg (by decide +kernel)]; exact ⟨rfl, rfl⟩))
    (fun os started H enc _ => closureWay_lifted os started H enc)
/-- The given statement. -/
theorem closureWay_proved : Rows.ClosureWayCardSaid :=
  Claim7.holds_tied_plain_at .later [] [.data] true (true, "6961f7cada38c9c9911df68423e02c997f36cc4bf4cef1e89a78e6375edcb2ad") false
    closureWay_over (fun _ h => by cases h) (by kernel_rfl) (fun _ h => by cases h) closureWay_row_tie rfl ⟨rfl, rfl⟩ (by kernel_rfl) rfl
    (fun f fn hf hfn => by
      obtain rfl : f = 4 := Option.some.inj ((show Tryd.prog.funcNamed "tenter/tenterlaw24.ClosureWay" = some 4 by kernel_rfl).symm.trans hf) |>.symm
      obtain rfl : fn = Tryd.f4 := (Option.some.inj (Tryd.func4.symm.trans hfn)).symm
      exact ⟨by kernel_rfl, fun j t ht => by
        rw [Tryd.params4] at ht
        have hm : t ∈ [3, 27, 27] := by simpa using Array.mem_of_getElem? ht
        have hall : ([3, 27, 27].all fun u => !Tryd.prog.wantsStandIn u) = true := by kernel_rfl
        exact (show Tryd.prog.wantsStandIn t = false by simpa using List.all_eq_true.1 hall t hm)⟩)
    (by kernel_rfl)

end Go.Proofs.YtpahapjcdldodaaDoor
