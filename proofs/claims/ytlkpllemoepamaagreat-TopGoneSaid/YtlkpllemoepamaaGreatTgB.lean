/- TopGone: from the contract to the given row. No condition. -/
import Derived.Test.YtlkpllemoepamaaGreatJ12
import Derived.Test.YtlkpllemoepamaaGreatLibW
import Derived.Test.YtlkpllemoepamaaGreatRows
namespace Go.Proofs.YtlkpllemoepamaaGreat
open Go Go.Gm Go.ChangeShapes Go.WideShapes Go.ChangeAt Go.RowKit
set_option linter.unusedVariables false
theorem Zr3:ZdG Tryz.prog 60 rOp:=(Zb6 (tot:=4) Tryz.underlying60 kr (Zac (k:=1) kr kr (Zhk Tryz.underlying4) (Zac (k:=1) kr kr (ZbF Tryz.underlying3) (Zac (k:=1) kr kr (ZbF Tryz.underlying3) (Zac (k:=1) kr kr (ZbF Tryz.underlying3) Zdj))))).map (fun p=>(⟨p.1,p.2.1,p.2.2.1,p.2.2.2.1⟩:OpD)) (fun _=>rfl)
theorem Zrg:ZdG Tryz.prog 30 rTx:=(Zb6 (tot:=3) Tryz.underlying30 kr (Zac (k:=1) kr kr (ZbF Tryz.underlying3) (Zac (k:=1) kr kr (Zhk Tryz.underlying4) (Zac (k:=1) kr kr (ZcG Tryz.underlying28 kr Zr3) Zdj)))).map (fun p=>(⟨p.1,p.2.1,p.2.2.1⟩:TxD)) (fun _=>rfl)
theorem ZoQ:ZdG Tryz.prog 70 ZJ:=(Zb6 (tot:=2) Tryz.underlying70 kr (Zac (k:=1) kr kr (ZbF Tryz.underlying3) (Zac (k:=1) kr kr (ZcG Tryz.underlying45 kr (ZbF Tryz.underlying3)) Zdj))).map (fun p=>(⟨p.1,p.2.1⟩:ZP)) (fun _=>rfl)
theorem Zna:ZdG Tryz.prog 25 Zx:=(Zb6 (tot:=2) Tryz.underlying25 kr (Zac (k:=1) kr kr (ZcG Tryz.underlying22 kr Zrg) (Zac (k:=1) kr kr (ZcG Tryz.underlying23 kr ZoQ) Zdj))).map (fun p=>(⟨p.1,p.2.1⟩:Zw)) (fun _=>rfl)
theorem ZkA:ownKnob Tryz.prog.godebug=none:=by kernel_rfl
theorem ZiQ:laidOutB Tryz.prog=true:=by kernel_rfl
theorem ZhO:∀ t ∈ Tryz.f8.params.toList,Tryz.prog.readableRec t=true∧t<Tryz.prog.types.size:=by
 have h:(Tryz.f8.params.toList.all fun t=>Tryz.prog.readableRec t && Nat.blt t Tryz.prog.types.size)=true:=by kernel_rfl
 intro t ht
 have:=YaU.1 h t ht
 simp only [Yr,YaB] at this
 exact this
set_option maxRecDepth 100000 in
theorem ZgC (os:Os) (started:os.Started) (H:Type) (enc:TypeId×Value→H) :
   ReturnsInHanded {} Tryz.checked os 8 .any (Rows.topGoneSpec.pre6 enc Tryz.prog Tryz.f8 Rows.topGoneRow.domain false) (Rows.topGoneSpec.post enc Tryz.prog Tryz.f8 false true false false):=by
 refine returnsInHanded_of_change (C:=Tryz.checked) ZkA started kr Tryz.func8
   (ChangeSpec.witness6 (enc:=enc) (C:=Tryz.checked) false ⟨#[],#[.agg #[.slice none 0 0,.slice none 0 0],.int .i64 0],[]⟩ 8 kr kr kr kr) ?_
 intro W base args ds gs before hval hW _ _
 have hA:=(ZgR (ZrD Tryz.underlying25 Zna) (ZgR (ZqP kr (ZbF Tryz.underlying3)) (Zpm (P:=Tryz.prog))))
 exact Ziu (P:=Tryz.prog) (fn:=Tryz.f8) (s:=Rows.topGoneSpec) ZiQ ZhO hA (by rw [Tryz.params8]) (fun b=>ZpB b.1 b.2.1) rfl kr Tryz.underlying4
   (fun H ds h=>by
     rw [Tryz.params8] at h
     match ds,h with
     | [d0,d1],_=>rfl) H enc W base args ds gs before hval hW
theorem Zmi:(Rows.topGoneRow.inPlace == Tryz.prog.inPlace 8)=true:=by kernel_rfl
theorem Zmd:(Rows.topGoneRow.unfollowed == Tryz.prog.unfollowed 8)=true:=by kernel_rfl
theorem Znf:(Rows.topGoneRow.recurses == Tryz.prog.recurses 8)=true:=by kernel_rfl
theorem Zms:(Rows.topGoneRow.named == Tryz.prog.varsNamed 8)=true:=by kernel_rfl
theorem ZgG:joinedFacts Tryz.prog 8 Tryz.f8 Rows.topGoneSpec Rows.topGoneRow=true:=by
 unfold joinedFacts
 rw [Zmi,Zmd,Znf,Zms]
 kernel_rfl
theorem Zix:Rows.topGoneRow.holds Tryz.pinned (OpenSpec.ofChange Rows.topGoneSpec):=
 OpenClaim.holds_of_wide 8 Tryz.f8 rfl rfl rfl rfl rfl rfl rfl ⟨rfl,rfl,rfl,rfl,rfl⟩ rfl rfl rfl rfl rfl kr Tryz.func8 ZgG
   (Yq kr) (by unfold Func.isWrapper;first | (rw [Yf (by decide +kernel)];kernel_rfl) | (rw [Yc (by decide +kernel)];exact ⟨rfl,rfl⟩))
   (fun os started H enc _=>ZgC os started H enc)
theorem topGone_proved:Rows.TopGoneSaid:=Zix
end Go.Proofs.YtlkpllemoepamaaGreat
