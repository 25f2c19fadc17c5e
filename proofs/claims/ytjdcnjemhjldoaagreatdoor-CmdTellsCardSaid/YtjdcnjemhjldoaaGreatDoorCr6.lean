/- CmdTells: from the contract to the given card. No condition. -/
import Derived.Test.YtjdcnjemhjldoaaGreatDoorCr5
import Derived.Test.YtjdcnjemhjldoaaGreatDoorLibY
import Derived.Test.YtjdcnjemhjldoaaGreatDoorTie
import Derived.Test.YtjdcnjemhjldoaaGreatDoorCards
import Derived.Lay
import Derived.MakeChecks
namespace Go.Proofs.YtjdcnjemhjldoaaGreatDoor
open Go Go.Gm Go.ChangeShapes Go.WideShapes Go.ChangeAt Go.RowKit Go.WideElems Go.WideMaps
set_option linter.unusedVariables false
theorem reads_op : Reads Tryz.prog 59 rOp := (reads_struct (tot := 4) Tryz.underlying59 (by kernel_rfl) (readsF_cons (k := 1) (by kernel_rfl) (by kernel_rfl) (reads_bool Tryz.underlying4) (readsF_cons (k := 1) (by kernel_rfl) (by kernel_rfl) (reads_int Tryz.underlying3) (readsF_cons (k := 1) (by kernel_rfl) (by kernel_rfl) (reads_int Tryz.underlying3) (readsF_cons (k := 1) (by kernel_rfl) (by kernel_rfl) (reads_int Tryz.underlying3) readsF_nil))))).map (fun p => (⟨p.1, p.2.1, p.2.2.1, p.2.2.2.1⟩ : OpD)) (fun _ => rfl)
theorem reads_tx : Reads Tryz.prog 24 rTx := (reads_struct (tot := 3) Tryz.underlying24 (by kernel_rfl) (readsF_cons (k := 1) (by kernel_rfl) (by kernel_rfl) (reads_int Tryz.underlying3) (readsF_cons (k := 1) (by kernel_rfl) (by kernel_rfl) (reads_bool Tryz.underlying4) (readsF_cons (k := 1) (by kernel_rfl) (by kernel_rfl) (reads_slice Tryz.underlying22 (by kernel_rfl) reads_op) readsF_nil)))).map (fun p => (⟨p.1, p.2.1, p.2.2.1⟩ : TxD)) (fun _ => rfl)
theorem reads_ord : Reads Tryz.prog 27 rOrd := (reads_struct (tot := 2) Tryz.underlying27 (by kernel_rfl) (readsF_cons (k := 1) (by kernel_rfl) (by kernel_rfl) (reads_int Tryz.underlying3) (readsF_cons (k := 1) (by kernel_rfl) (by kernel_rfl) (reads_slice (R := rInt) Tryz.underlying25 (by kernel_rfl) (reads_int Tryz.underlying3)) readsF_nil))).map (fun p => (⟨p.1, p.2.1⟩ : OrdD)) (fun _ => rfl)
theorem reads_cmd : Reads Tryz.prog 29 rCmd := (reads_struct (tot := 10) Tryz.underlying29 (by kernel_rfl) (readsF_cons (k := 1) (by kernel_rfl) (by kernel_rfl) (reads_int Tryz.underlying3) (readsF_cons (k := 3) (by kernel_rfl) (by kernel_rfl) reads_tx (readsF_cons (k := 2) (by kernel_rfl) (by kernel_rfl) reads_ord (readsF_cons (k := 1) (by kernel_rfl) (by kernel_rfl) (reads_int Tryz.underlying3) (readsF_cons (k := 1) (by kernel_rfl) (by kernel_rfl) (reads_int Tryz.underlying3) (readsF_cons (k := 1) (by kernel_rfl) (by kernel_rfl) (reads_int Tryz.underlying3) (readsF_cons (k := 1) (by kernel_rfl) (by kernel_rfl) (reads_int Tryz.underlying3) readsF_nil)))))))).map (fun p => (⟨p.1, p.2.1, p.2.2.1, p.2.2.2.1, p.2.2.2.2.1, p.2.2.2.2.2.1, p.2.2.2.2.2.2.1⟩ : CmdD)) (fun _ => rfl)

def laidL : List (String × DataW Unit) := [("unicode/utf8.acceptRanges", Rows.laid_unicode_utf8_acceptRanges), ("unicode/utf8.first", Rows.laid_unicode_utf8_first)]
theorem door_met (os : Os) (args : Array Value) : laidMetH Tryz.prog laidL ((World.laidAll Tryz.prog os laidL).forCall (fun _ _ => 0) ⟨#[], args, []⟩).memory := by
  rw [MakeChecks.laidMetH_plain _ _ _ (by kernel_rfl)]
  exact laidMet_laidAll _ (by kernel_rfl) (by kernel_rfl)

theorem cmdTells_own : ownKnob Tryz.prog.godebug = none := by kernel_rfl
theorem cmdTells_laid : laidOutB Tryz.prog = true := by kernel_rfl
theorem cmdTells_types : ∀ t ∈ Tryz.f3.params.toList, Tryz.prog.readableRec t = true ∧ t < Tryz.prog.types.size := by
  have h : (Tryz.f3.params.toList.all fun t => Tryz.prog.readableRec t && Nat.blt t Tryz.prog.types.size) = true := by kernel_rfl
  intro t ht
  have := List.all_eq_true.1 h t ht
  simp only [Bool.and_eq_true, Nat.blt_eq] at this
  exact this
set_option maxRecDepth 100000 in
theorem cmdTells_lifted (os : Os) (started : os.Started) (H : Type) (enc : TypeId × Value → H) :
    ReturnsInHanded {} Tryz.checked os 3 .any (fun w args => (Rows.cmdTellsSpec.pre enc Tryz.prog Tryz.f3 [] false w args ∧ laidMetH Tryz.prog laidL w) ∧ sizedMet enc Tryz.prog Tryz.f3 (OpenSpec.ofChange Rows.cmdTellsSpec) false w args)
      (Rows.cmdTellsSpec.post enc Tryz.prog Tryz.f3 false true false false) := by
  refine returnsInHanded_of_change_and (C := Tryz.checked) (X := fun w _ => laidMetH Tryz.prog laidL w) (fun _ _ _ hh h => h.of_heap hh) cmdTells_own started (by kernel_rfl) Tryz.func3
    (ChangeSpec.witness_shaped (enc := enc) (C := Tryz.checked) (os := os) (X := fun w _ => laidMetH Tryz.prog laidL w) false (World.laidAll Tryz.prog os laidL) #[.agg #[.int .i64 0, .int .i64 0, .bool false, .slice none 0 0, .int .i64 0, .slice none 0 0, .int .i64 0, .int .i64 0, .int .i64 0, .int .i64 0], .agg #[.int .i64 0, .int .i64 0, .bool false, .slice none 0 0, .int .i64 0, .slice none 0 0, .int .i64 0, .int .i64 0, .int .i64 0, .int .i64 0], .string ⟨#[]⟩] 8 (World.laidAll_os _ _ _) (World.shaped_of_ZipB (by kernel_rfl) (by kernel_rfl)) (by kernel_rfl) (by kernel_rfl) (by kernel_rfl) (door_met os _)) ?_
  intro W base args ds gs before hval hW _ _ hL _
  have hA := (argsR_cons (argR_agg Tryz.underlying29 reads_cmd) (argsR_cons (argR_agg Tryz.underlying29 reads_cmd) (argsR_cons (argR_one (by kernel_rfl) (reads_bs Tryz.underlying9)) (argsR_nil (P := Tryz.prog)))))
  exact law_contract (P := Tryz.prog) (fn := Tryz.f3) (s := Rows.cmdTellsSpec) cmdTells_laid cmdTells_types hA (by rw [Tryz.params3]) (fun b => cmdTells_c b.1 b.2.1 b.2.2.1) rfl (by kernel_rfl) Tryz.underlying4
    (fun H ds h => by
      rw [Tryz.params3] at h
      match ds, h with
      | [d0, d1, d2], _ => rfl) H enc W base args ds gs before hval hW
theorem cmdTells_over : Rows.CmdTellsSaid :=
  OpenClaim.holds_of_wide 3 Tryz.f3 rfl rfl rfl rfl rfl rfl rfl ⟨rfl, rfl, rfl, rfl, rfl⟩ rfl rfl rfl rfl rfl (by kernel_rfl) Tryz.func3 (by kernel_rfl)
    (of_decide_eq_true (by kernel_rfl)) (by unfold Func.isWrapper; first | (rw [if_pos (by decide +kernel)]; kernel_rfl) | (rw [if_neg (by decide +kernel)]; exact ⟨rfl, rfl⟩))
    (fun os started H enc _ => cmdTells_lifted os started H enc)
/-- The given statement. -/
theorem cmdTells_proved : Rows.CmdTellsCardSaid :=
  Claim7.holds_tied_plain_at .later [] [.data, .pinned] true (true, "e21d7e65d4b21801017b8a4fbf28ac75277f202a003f37ae28c7b0b534571bc8") false
    cmdTells_over (fun _ h => by cases h) (by kernel_rfl) (fun _ h => by cases h) cmdTells_row_tie rfl ⟨rfl, rfl⟩ (by kernel_rfl) rfl
    (fun f fn hf hfn => by
      obtain rfl : f = 3 := Option.some.inj ((show Tryz.prog.funcNamed "tenter/tenterlaw37.CmdTells" = some 3 by kernel_rfl).symm.trans hf) |>.symm
      obtain rfl : fn = Tryz.f3 := (Option.some.inj (Tryz.func3.symm.trans hfn)).symm
      exact ⟨by kernel_rfl, fun j t ht => by
        rw [Tryz.params3] at ht
        have hm : t ∈ [29, 29, 9] := by simpa using Array.mem_of_getElem? ht
        have hall : ([29, 29, 9].all fun u => !Tryz.prog.wantsStandIn u) = true := by kernel_rfl
        exact (show Tryz.prog.wantsStandIn t = false by simpa using List.all_eq_true.1 hall t hm)⟩)
    (by kernel_rfl)

end Go.Proofs.YtjdcnjemhjldoaaGreatDoor
