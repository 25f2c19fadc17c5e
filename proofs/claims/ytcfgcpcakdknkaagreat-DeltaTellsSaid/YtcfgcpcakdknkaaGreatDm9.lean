/- DeltaTells: from the contract to the given row. No condition. -/
import Derived.Test.YtcfgcpcakdknkaaGreatDm8
import Derived.Test.YtcfgcpcakdknkaaGreatLibW
import Derived.Test.YtcfgcpcakdknkaaGreatRows
namespace Go.Proofs.YtcfgcpcakdknkaaGreat
open Go Go.Gm Go.ChangeShapes Go.WideShapes Go.ChangeAt Go.RowKit
set_option linter.unusedVariables false
theorem reads_op:Reads Tryz.prog 84 rOp:=(reads_struct (tot:=4) Tryz.underlying84 (by kernel_rfl) (readsF_cons (k:=1) (by kernel_rfl) (by kernel_rfl) (reads_bool Tryz.underlying4) (readsF_cons (k:=1) (by kernel_rfl) (by kernel_rfl) (reads_int Tryz.underlying3) (readsF_cons (k:=1) (by kernel_rfl) (by kernel_rfl) (reads_int Tryz.underlying3) (readsF_cons (k:=1) (by kernel_rfl) (by kernel_rfl) (reads_int Tryz.underlying3) readsF_nil))))).map (fun p=>(⟨p.1,p.2.1,p.2.2.1,p.2.2.2.1⟩:OpD)) (fun _=>rfl)
theorem reads_tx:Reads Tryz.prog 34 rTx:=(reads_struct (tot:=3) Tryz.underlying34 (by kernel_rfl) (readsF_cons (k:=1) (by kernel_rfl) (by kernel_rfl) (reads_int Tryz.underlying3) (readsF_cons (k:=1) (by kernel_rfl) (by kernel_rfl) (reads_bool Tryz.underlying4) (readsF_cons (k:=1) (by kernel_rfl) (by kernel_rfl) (reads_slice Tryz.underlying32 (by kernel_rfl) reads_op) readsF_nil)))).map (fun p=>(⟨p.1,p.2.1,p.2.2.1⟩:TxD)) (fun _=>rfl)
theorem reads_ord:Reads Tryz.prog 37 rOrd:=(reads_struct (tot:=2) Tryz.underlying37 (by kernel_rfl) (readsF_cons (k:=1) (by kernel_rfl) (by kernel_rfl) (reads_int Tryz.underlying3) (readsF_cons (k:=1) (by kernel_rfl) (by kernel_rfl) (reads_slice Tryz.underlying35 (by kernel_rfl) (reads_int Tryz.underlying3)) readsF_nil))).map (fun p=>(⟨p.1,p.2.1⟩:OrdD)) (fun _=>rfl)
theorem reads_hist:Reads Tryz.prog 30 rHist:=(reads_struct (tot:=2) Tryz.underlying30 (by kernel_rfl) (readsF_cons (k:=1) (by kernel_rfl) (by kernel_rfl) (reads_slice Tryz.underlying27 (by kernel_rfl) reads_tx) (readsF_cons (k:=1) (by kernel_rfl) (by kernel_rfl) (reads_slice Tryz.underlying28 (by kernel_rfl) reads_ord) readsF_nil))).map (fun p=>(⟨p.1,p.2.1⟩:HistD)) (fun _=>rfl)
theorem reads_delta:Reads Tryz.prog 44 rDelta:=(reads_struct (tot:=4) Tryz.underlying44 (by kernel_rfl) (readsF_cons (k:=1) (by kernel_rfl) (by kernel_rfl) (reads_slice Tryz.underlying27 (by kernel_rfl) reads_tx) (readsF_cons (k:=1) (by kernel_rfl) (by kernel_rfl) (reads_slice Tryz.underlying27 (by kernel_rfl) reads_tx) (readsF_cons (k:=1) (by kernel_rfl) (by kernel_rfl) (reads_slice Tryz.underlying28 (by kernel_rfl) reads_ord) (readsF_cons (k:=1) (by kernel_rfl) (by kernel_rfl) (reads_slice Tryz.underlying28 (by kernel_rfl) reads_ord) readsF_nil))))).map (fun p=>(⟨p.1,p.2.1,p.2.2.1,p.2.2.2.1⟩:DeltaD)) (fun _=>rfl)
theorem deltaTells_own:ownKnob Tryz.prog.godebug=none:=by kernel_rfl
theorem deltaTells_laid:laidOutB Tryz.prog=true:=by kernel_rfl
theorem deltaTells_types:∀ t ∈ Tryz.f4.params.toList,Tryz.prog.readableRec t=true∧t<Tryz.prog.types.size:=by
 have h:(Tryz.f4.params.toList.all fun t=>Tryz.prog.readableRec t && Nat.blt t Tryz.prog.types.size)=true:=by kernel_rfl
 intro t ht
 have:=List.all_eq_true.1 h t ht
 simp only [Bool.and_eq_true,Nat.blt_eq] at this
 exact this
set_option maxRecDepth 100000 in
theorem deltaTells_lifted (os:Os) (started:os.Started) (H:Type) (enc:TypeId×Value→H) :
   ReturnsInHanded {} Tryz.checked os 4 .any (Rows.deltaTellsSpec.pre6 enc Tryz.prog Tryz.f4 Rows.deltaTellsRow.domain false) (Rows.deltaTellsSpec.post enc Tryz.prog Tryz.f4 false true false false):=by
 refine returnsInHanded_of_change (C:=Tryz.checked) deltaTells_own started (by kernel_rfl) Tryz.func4
   (ChangeSpec.witness6 (enc:=enc) (C:=Tryz.checked) false ⟨#[],#[.agg #[.slice none 0 0,.slice none 0 0],.agg #[.slice none 0 0,.slice none 0 0],.agg #[.slice none 0 0,.slice none 0 0,.slice none 0 0,.slice none 0 0],.agg #[.slice none 0 0,.slice none 0 0,.slice none 0 0,.slice none 0 0]],[]⟩ 8 (by kernel_rfl) (by kernel_rfl) (by kernel_rfl) (by kernel_rfl)) ?_
 intro W base args ds gs before hval hW _ _
 have hA:=(argsR_cons (argR_agg Tryz.underlying30 reads_hist) (argsR_cons (argR_agg Tryz.underlying30 reads_hist) (argsR_cons (argR_agg Tryz.underlying44 reads_delta) (argsR_cons (argR_agg Tryz.underlying44 reads_delta) (argsR_nil (P:=Tryz.prog))))))
 exact law_contract (P:=Tryz.prog) (fn:=Tryz.f4) (s:=Rows.deltaTellsSpec) deltaTells_laid deltaTells_types hA (by rw [Tryz.params4]) (fun b=>deltaTells_c b.1 b.2.1 b.2.2.1 b.2.2.2.1) rfl (by kernel_rfl) Tryz.underlying4
   (fun H ds h=>by
     rw [Tryz.params4] at h
     match ds,h with
     | [d0,d1,d2,d3],_=>rfl) H enc W base args ds gs before hval hW
theorem deltaTells_over:Rows.deltaTellsRow.holds Tryz.pinned (OpenSpec.ofChange Rows.deltaTellsSpec):=
 OpenClaim.holds_of_wide 4 Tryz.f4 rfl rfl rfl rfl rfl rfl rfl ⟨rfl,rfl,rfl,rfl,rfl⟩ rfl rfl rfl rfl rfl (by kernel_rfl) Tryz.func4 (by kernel_rfl)
   (of_decide_eq_true (by kernel_rfl)) (by unfold Func.isWrapper;first | (rw [if_pos (by decide +kernel)];kernel_rfl) | (rw [if_neg (by decide +kernel)];exact ⟨rfl,rfl⟩))
   (fun os started H enc _=>deltaTells_lifted os started H enc)
theorem deltaTells_proved:Rows.DeltaTellsSaid:=deltaTells_over
end Go.Proofs.YtcfgcpcakdknkaaGreat
