/- TopLengths: from the contract to the given row. No condition. -/
import Derived.Test.YtlkpllemoepamaaGreatJ15
import Derived.Test.YtlkpllemoepamaaGreatRows
namespace Go.Proofs.YtlkpllemoepamaaGreat
open Go Go.Gm Go.ChangeShapes Go.WideShapes Go.ChangeAt Go.RowKit
set_option linter.unusedVariables false
theorem ZpU:Zda Tryz.prog 60 rOp:=(ZbB (tot:=4) Tryz.underlying60 kr (Z3 (k:=1) kr kr (Zf5 Tryz.underlying4) (Z3 (k:=1) kr kr (Zb3 Tryz.underlying3) (Z3 (k:=1) kr kr (Zb3 Tryz.underlying3) (Z3 (k:=1) kr kr (Zb3 Tryz.underlying3) ZcV))))).map (fun p=>(⟨p.1,p.2.1,p.2.2.1,p.2.2.2.1⟩:OpD)) (fun _=>rfl)
theorem Zqu:Zda Tryz.prog 30 rTx:=(ZbB (tot:=3) Tryz.underlying30 kr (Z3 (k:=1) kr kr (Zb3 Tryz.underlying3) (Z3 (k:=1) kr kr (Zf5 Tryz.underlying4) (Z3 (k:=1) kr kr (Zca Tryz.underlying28 kr ZpU) ZcV)))).map (fun p=>(⟨p.1,p.2.1,p.2.2.1⟩:TxD)) (fun _=>rfl)
theorem Zmy:Zda Tryz.prog 70 ZV:=(ZbB (tot:=2) Tryz.underlying70 kr (Z3 (k:=1) kr kr (Zb3 Tryz.underlying3) (Z3 (k:=1) kr kr (Zca Tryz.underlying45 kr (Zb3 Tryz.underlying3)) ZcV))).map (fun p=>(⟨p.1,p.2.1⟩:OrdD)) (fun _=>rfl)
theorem ZkV:Zda Tryz.prog 25 Zx:=(ZbB (tot:=2) Tryz.underlying25 kr (Z3 (k:=1) kr kr (Zca Tryz.underlying22 kr Zqu) (Z3 (k:=1) kr kr (Zca Tryz.underlying23 kr Zmy) ZcV))).map (fun p=>(⟨p.1,p.2.1⟩:Zq)) (fun _=>rfl)
theorem ZfY:ownKnob Tryz.prog.godebug=none:=by kernel_rfl
theorem Ze0:laidOutB Tryz.prog=true:=by kernel_rfl
theorem Zeh:∀ t ∈ Tryz.f3.params.toList,Tryz.prog.readableRec t=true∧t<Tryz.prog.types.size:=by
 have h:(Tryz.f3.params.toList.all fun t=>Tryz.prog.readableRec t && Nat.blt t Tryz.prog.types.size)=true:=by kernel_rfl
 intro t ht
 have:=Ya9.1 h t ht
 simp only [Yr,Yas] at this
 exact this
set_option maxRecDepth 100000 in
theorem ZdU (os:Os) (started:os.Started) (H:Type) (enc:TypeId×Value→H) :
   ReturnsInHanded {} Tryz.checked os 3 .any (Rows.topLengthsSpec.pre6 enc Tryz.prog Tryz.f3 Rows.topLengthsRow.domain false) (Rows.topLengthsSpec.post enc Tryz.prog Tryz.f3 false true false false):=by
 refine returnsInHanded_of_change (C:=Tryz.checked) ZfY started kr Tryz.func3
   (ChangeSpec.witness6 (enc:=enc) (C:=Tryz.checked) false ⟨#[],#[.agg #[.slice none 0 0,.slice none 0 0]],[]⟩ 8 kr kr kr kr) ?_
 intro W base args ds gs before hval hW _ _
 have hA:=(Zlx (ZpH Tryz.underlying25 ZkV) (Znl (P:=Tryz.prog)))
 exact ZhA (P:=Tryz.prog) (fn:=Tryz.f3) (s:=Rows.topLengthsSpec) Ze0 Zeh hA (by rw [Tryz.params3]) (fun b=>Zhz b.1) rfl kr Tryz.underlying4
   (fun H ds h=>by
     rw [Tryz.params3] at h
     match ds,h with
     | [d0],_=>rfl) H enc W base args ds gs before hval hW
theorem ZgQ:(Rows.topLengthsRow.inPlace == Tryz.prog.inPlace 3)=true:=by kernel_rfl
theorem Zhd:(Rows.topLengthsRow.unfollowed == Tryz.prog.unfollowed 3)=true:=by kernel_rfl
theorem ZgT:(Rows.topLengthsRow.recurses == Tryz.prog.recurses 3)=true:=by kernel_rfl
theorem Zhc:(Rows.topLengthsRow.named == Tryz.prog.varsNamed 3)=true:=by kernel_rfl
theorem ZdQ:joinedFacts Tryz.prog 3 Tryz.f3 Rows.topLengthsSpec Rows.topLengthsRow=true:=by
 unfold joinedFacts
 rw [ZgQ,Zhd,ZgT,Zhc]
 kernel_rfl
theorem Zfa:Rows.topLengthsRow.holds Tryz.pinned (OpenSpec.ofChange Rows.topLengthsSpec):=
 OpenClaim.holds_of_wide 3 Tryz.f3 rfl rfl rfl rfl rfl rfl rfl ⟨rfl,rfl,rfl,rfl,rfl⟩ rfl rfl rfl rfl rfl kr Tryz.func3 ZdQ
   (Yt kr) (by unfold Func.isWrapper;first | (rw [Ye (by decide +kernel)];kernel_rfl) | (rw [Yb (by decide +kernel)];exact ⟨rfl,rfl⟩))
   (fun os started H enc _=>ZdU os started H enc)
theorem topLengths_proved:Rows.TopLengthsSaid:=Zfa
end Go.Proofs.YtlkpllemoepamaaGreat
