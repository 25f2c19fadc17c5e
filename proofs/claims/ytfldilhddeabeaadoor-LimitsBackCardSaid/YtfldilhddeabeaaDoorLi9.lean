/- LimitsTell and LimitsBack: from the contract to the given card. No condition. -/
import Derived.Test.YtfldilhddeabeaaDoorLi8
import Derived.Test.YtfldilhddeabeaaDoorLibY
import Derived.Test.YtfldilhddeabeaaDoorTie
import Derived.Test.YtfldilhddeabeaaDoorCards
import Derived.Lay
import Derived.MakeChecks
namespace Go.Proofs.YtfldilhddeabeaaDoor
open Go Go.Gm Go.ChangeShapes Go.WideShapes Go.ChangeAt Go.RowKit Go.WideElems Go.WideMaps
set_option linter.unusedVariables false
theorem reads_op : Reads Tryd.prog 115 rOp := (reads_struct (tot := 4) Tryd.underlying115 (by kernel_rfl) (readsF_cons (k := 1) (by kernel_rfl) (by kernel_rfl) (reads_bool Tryd.underlying4) (readsF_cons (k := 1) (by kernel_rfl) (by kernel_rfl) (reads_int Tryd.underlying3) (readsF_cons (k := 1) (by kernel_rfl) (by kernel_rfl) (reads_int Tryd.underlying3) (readsF_cons (k := 1) (by kernel_rfl) (by kernel_rfl) (reads_int Tryd.underlying3) readsF_nil))))).map (fun p => (⟨p.1, p.2.1, p.2.2.1, p.2.2.2.1⟩ : OpD)) (fun _ => rfl)
theorem reads_tx : Reads Tryd.prog 36 rTx := (reads_struct (tot := 3) Tryd.underlying36 (by kernel_rfl) (readsF_cons (k := 1) (by kernel_rfl) (by kernel_rfl) (reads_int Tryd.underlying3) (readsF_cons (k := 1) (by kernel_rfl) (by kernel_rfl) (reads_bool Tryd.underlying4) (readsF_cons (k := 1) (by kernel_rfl) (by kernel_rfl) (reads_slice Tryd.underlying34 (by kernel_rfl) reads_op) readsF_nil)))).map (fun p => (⟨p.1, p.2.1, p.2.2.1⟩ : TxD)) (fun _ => rfl)
theorem reads_ord : Reads Tryd.prog 55 rOrd := (reads_struct (tot := 2) Tryd.underlying55 (by kernel_rfl) (readsF_cons (k := 1) (by kernel_rfl) (by kernel_rfl) (reads_int Tryd.underlying3) (readsF_cons (k := 1) (by kernel_rfl) (by kernel_rfl) (reads_slice (R := rInt) Tryd.underlying53 (by kernel_rfl) (reads_int Tryd.underlying3)) readsF_nil))).map (fun p => (⟨p.1, p.2.1⟩ : OrdD)) (fun _ => rfl)
theorem reads_hist : Reads Tryd.prog 40 rHist := (reads_struct (tot := 2) Tryd.underlying40 (by kernel_rfl) (readsF_cons (k := 1) (by kernel_rfl) (by kernel_rfl) (reads_slice Tryd.underlying37 (by kernel_rfl) reads_tx) (readsF_cons (k := 1) (by kernel_rfl) (by kernel_rfl) (reads_slice Tryd.underlying38 (by kernel_rfl) reads_ord) readsF_nil))).map (fun p => (⟨p.1, p.2.1⟩ : HistD)) (fun _ => rfl)
theorem reads_lim : Reads Tryd.prog 33 rLim := (reads_struct (tot := 5) Tryd.underlying33 (by kernel_rfl) (readsF_cons (k := 1) (by kernel_rfl) (by kernel_rfl) (reads_int Tryd.underlying3) (readsF_cons (k := 1) (by kernel_rfl) (by kernel_rfl) (reads_int Tryd.underlying3) (readsF_cons (k := 1) (by kernel_rfl) (by kernel_rfl) (reads_int Tryd.underlying3) (readsF_cons (k := 1) (by kernel_rfl) (by kernel_rfl) (reads_int Tryd.underlying3) (readsF_cons (k := 1) (by kernel_rfl) (by kernel_rfl) (reads_int Tryd.underlying3) readsF_nil)))))).map (fun p => (⟨p.1, p.2.1, p.2.2.1, p.2.2.2.1, p.2.2.2.2.1⟩ : LimD)) (fun _ => rfl)

def laidL : List (String × DataW Unit) := [("unicode/utf8.acceptRanges", Rows.laid_unicode_utf8_acceptRanges), ("unicode/utf8.first", Rows.laid_unicode_utf8_first)]
theorem door_met (os : Os) (args : Array Value) : laidMetH Tryd.prog laidL ((World.laidAll Tryd.prog os laidL).forCall (fun _ _ => 0) ⟨#[], args, []⟩).memory := by
  rw [MakeChecks.laidMetH_plain _ _ _ (by kernel_rfl)]
  exact laidMet_laidAll _ (by kernel_rfl) (by kernel_rfl)

theorem limitsTell_own : ownKnob Tryd.prog.godebug = none := by kernel_rfl
theorem limitsTell_laid : laidOutB Tryd.prog = true := by kernel_rfl
theorem limitsTell_types : ∀ t ∈ Tryd.f5.params.toList, Tryd.prog.readableRec t = true ∧ t < Tryd.prog.types.size := by
  have h : (Tryd.f5.params.toList.all fun t => Tryd.prog.readableRec t && Nat.blt t Tryd.prog.types.size) = true := by kernel_rfl
  intro t ht
  have := List.all_eq_true.1 h t ht
  simp only [Bool.and_eq_true, Nat.blt_eq] at this
  exact this
set_option maxRecDepth 100000 in
theorem limitsTell_lifted (os : Os) (started : os.Started) (H : Type) (enc : TypeId × Value → H) :
    ReturnsInHanded {} Tryd.checked os 5 .any (fun w args => (Rows.limitsTellSpec.pre enc Tryd.prog Tryd.f5 [] false w args ∧ laidMetH Tryd.prog laidL w) ∧ sizedMet enc Tryd.prog Tryd.f5 (OpenSpec.ofChange Rows.limitsTellSpec) false w args)
      (Rows.limitsTellSpec.post enc Tryd.prog Tryd.f5 false true false false) := by
  refine returnsInHanded_of_change_and (C := Tryd.checked) (X := fun w _ => laidMetH Tryd.prog laidL w) (fun _ _ _ hh h => h.of_heap hh) limitsTell_own started (by kernel_rfl) Tryd.func5
    (ChangeSpec.witness_shaped (enc := enc) (C := Tryd.checked) (os := os) (X := fun w _ => laidMetH Tryd.prog laidL w) false (World.laidAll Tryd.prog os laidL) #[.agg #[.int .i64 0, .int .i64 0, .int .i64 0, .int .i64 0, .int .i64 0], .agg #[.int .i64 0, .bool false, .slice none 0 0], .agg #[.slice none 0 0, .slice none 0 0], .string ⟨#[]⟩] 8 (World.laidAll_os _ _ _) (World.shaped_of_ZipB (by kernel_rfl) (by kernel_rfl)) (by kernel_rfl) (by kernel_rfl) (by kernel_rfl) (door_met os _)) ?_
  intro W base args ds gs before hval hW _ _ hL _
  have hA := (argsR_cons (argR_agg Tryd.underlying33 reads_lim) (argsR_cons (argR_agg Tryd.underlying36 reads_tx) (argsR_cons (argR_agg Tryd.underlying40 reads_hist) (argsR_cons (argR_one (by kernel_rfl) (reads_bs Tryd.underlying9)) (argsR_nil (P := Tryd.prog))))))
  exact law_contract (P := Tryd.prog) (fn := Tryd.f5) (s := Rows.limitsTellSpec) limitsTell_laid limitsTell_types hA (by rw [Tryd.params5]) (fun b => limitsTell_c b.1 b.2.1 b.2.2.1 b.2.2.2.1) rfl (by kernel_rfl) Tryd.underlying4
    (fun H ds h => by
      rw [Tryd.params5] at h
      match ds, h with
      | [d0, d1, d2, d3], _ => rfl) H enc W base args ds gs before hval hW
theorem limitsTell_over : Rows.LimitsTellSaid :=
  OpenClaim.holds_of_wide 5 Tryd.f5 rfl rfl rfl rfl rfl rfl rfl ⟨rfl, rfl, rfl, rfl, rfl⟩ rfl rfl rfl rfl rfl (by kernel_rfl) Tryd.func5 (by kernel_rfl)
    (of_decide_eq_true (by kernel_rfl)) (by unfold Func.isWrapper; first | (rw [if_pos (by decide +kernel)]; kernel_rfl) | (rw [if_neg (by decide +kernel)]; exact ⟨rfl, rfl⟩))
    (fun os started H enc _ => limitsTell_lifted os started H enc)
/-- The given statement. -/
theorem limitsTell_proved : Rows.LimitsTellCardSaid :=
  Claim7.holds_tied_plain_at .later [] [.data, .pinned] true (true, "7a684c54022fa2f4c8158416c3c9b5cf6983cd5f5940fa42d23afaf659880106") false
    limitsTell_over (fun _ h => by cases h) (by kernel_rfl) (fun _ h => by cases h) limitsTell_row_tie rfl ⟨rfl, rfl⟩ (by kernel_rfl) rfl
    (fun f fn hf hfn => by
      obtain rfl : f = 5 := Option.some.inj ((show Tryd.prog.funcNamed "tenter/tenterlaw38.LimitsTell" = some 5 by kernel_rfl).symm.trans hf) |>.symm
      obtain rfl : fn = Tryd.f5 := (Option.some.inj (Tryd.func5.symm.trans hfn)).symm
      exact ⟨by kernel_rfl, fun j t ht => by
        rw [Tryd.params5] at ht
        have hm : t ∈ [33, 36, 40, 9] := by simpa using Array.mem_of_getElem? ht
        have hall : ([33, 36, 40, 9].all fun u => !Tryd.prog.wantsStandIn u) = true := by kernel_rfl
        exact (show Tryd.prog.wantsStandIn t = false by simpa using List.all_eq_true.1 hall t hm)⟩)
    (by kernel_rfl)

theorem limitsBack_own : ownKnob Tryd.prog.godebug = none := by kernel_rfl
theorem limitsBack_laid : laidOutB Tryd.prog = true := by kernel_rfl
theorem limitsBack_types : ∀ t ∈ Tryd.f6.params.toList, Tryd.prog.readableRec t = true ∧ t < Tryd.prog.types.size := by
  have h : (Tryd.f6.params.toList.all fun t => Tryd.prog.readableRec t && Nat.blt t Tryd.prog.types.size) = true := by kernel_rfl
  intro t ht
  have := List.all_eq_true.1 h t ht
  simp only [Bool.and_eq_true, Nat.blt_eq] at this
  exact this
set_option maxRecDepth 100000 in
theorem limitsBack_lifted (os : Os) (started : os.Started) (H : Type) (enc : TypeId × Value → H) :
    ReturnsInHanded {} Tryd.checked os 6 .any (fun w args => (Rows.limitsBackSpec.pre enc Tryd.prog Tryd.f6 [] false w args ∧ laidMetH Tryd.prog laidL w) ∧ sizedMet enc Tryd.prog Tryd.f6 (OpenSpec.ofChange Rows.limitsBackSpec) false w args)
      (Rows.limitsBackSpec.post enc Tryd.prog Tryd.f6 false true false false) := by
  refine returnsInHanded_of_change_and (C := Tryd.checked) (X := fun w _ => laidMetH Tryd.prog laidL w) (fun _ _ _ hh h => h.of_heap hh) limitsBack_own started (by kernel_rfl) Tryd.func6
    (ChangeSpec.witness_shaped (enc := enc) (C := Tryd.checked) (os := os) (X := fun w _ => laidMetH Tryd.prog laidL w) false (World.laidAll Tryd.prog os laidL) #[.agg #[.int .i64 0, .int .i64 0, .int .i64 0, .int .i64 0, .int .i64 0], .agg #[.int .i64 0, .int .i64 0, .int .i64 0, .int .i64 0, .int .i64 0], .agg #[.int .i64 0, .bool false, .slice none 0 0], .agg #[.slice none 0 0, .slice none 0 0], .string ⟨#[]⟩] 8 (World.laidAll_os _ _ _) (World.shaped_of_ZipB (by kernel_rfl) (by kernel_rfl)) (by kernel_rfl) (by kernel_rfl) (by kernel_rfl) (door_met os _)) ?_
  intro W base args ds gs before hval hW _ _ hL _
  have hA := (argsR_cons (argR_agg Tryd.underlying33 reads_lim) (argsR_cons (argR_agg Tryd.underlying33 reads_lim) (argsR_cons (argR_agg Tryd.underlying36 reads_tx) (argsR_cons (argR_agg Tryd.underlying40 reads_hist) (argsR_cons (argR_one (by kernel_rfl) (reads_bs Tryd.underlying9)) (argsR_nil (P := Tryd.prog)))))))
  exact law_contract (P := Tryd.prog) (fn := Tryd.f6) (s := Rows.limitsBackSpec) limitsBack_laid limitsBack_types hA (by rw [Tryd.params6]) (fun b => limitsBack_c b.1 b.2.1 b.2.2.1 b.2.2.2.1 b.2.2.2.2.1) rfl (by kernel_rfl) Tryd.underlying4
    (fun H ds h => by
      rw [Tryd.params6] at h
      match ds, h with
      | [d0, d1, d2, d3, d4], _ => rfl) H enc W base args ds gs before hval hW
theorem limitsBack_over : Rows.LimitsBackSaid :=
  OpenClaim.holds_of_wide 6 Tryd.f6 rfl rfl rfl rfl rfl rfl rfl ⟨rfl, rfl, rfl, rfl, rfl⟩ rfl rfl rfl rfl rfl (by kernel_rfl) Tryd.func6 (by kernel_rfl)
    (of_decide_eq_true (by kernel_rfl)) (by unfold Func.isWrapper; first | (rw [if_pos (by decide +kernel)]; kernel_rfl) | (rw [if_neg (by decide +kernel)]; exact ⟨rfl, rfl⟩))
    (fun os started H enc _ => limitsBack_lifted os started H enc)
/-- The given statement. -/
theorem limitsBack_proved : Rows.LimitsBackCardSaid :=
  Claim7.holds_tied_plain_at .later [] [.data, .pinned] true (true, "7a684c54022fa2f4c8158416c3c9b5cf6983cd5f5940fa42d23afaf659880106") false
    limitsBack_over (fun _ h => by cases h) (by kernel_rfl) (fun _ h => by cases h) limitsBack_row_tie rfl ⟨rfl, rfl⟩ (by kernel_rfl) rfl
    (fun f fn hf hfn => by
      obtain rfl : f = 6 := Option.some.inj ((show Tryd.prog.funcNamed "tenter/tenterlaw38.LimitsBack" = some 6 by kernel_rfl).symm.trans hf) |>.symm
      obtain rfl : fn = Tryd.f6 := (Option.some.inj (Tryd.func6.symm.trans hfn)).symm
      exact ⟨by kernel_rfl, fun j t ht => by
        rw [Tryd.params6] at ht
        have hm : t ∈ [33, 33, 36, 40, 9] := by simpa using Array.mem_of_getElem? ht
        have hall : ([33, 33, 36, 40, 9].all fun u => !Tryd.prog.wantsStandIn u) = true := by kernel_rfl
        exact (show Tryd.prog.wantsStandIn t = false by simpa using List.all_eq_true.1 hall t hm)⟩)
    (by kernel_rfl)

end Go.Proofs.YtfldilhddeabeaaDoor
