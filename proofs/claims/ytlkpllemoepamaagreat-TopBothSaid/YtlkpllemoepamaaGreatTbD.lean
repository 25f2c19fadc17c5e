/- TopBoth: from the contract to the given row. No condition. -/
import Derived.Test.YtlkpllemoepamaaGreatJ10
import Derived.Test.YtlkpllemoepamaaGreatRows
namespace Go.Proofs.YtlkpllemoepamaaGreat
open Go Go.Gm Go.ChangeShapes Go.WideShapes Go.ChangeAt Go.RowKit
set_option linter.unusedVariables false
theorem Zo0:Zdi Tryz.prog 60 rOp:=(ZbJ (tot:=4) Tryz.underlying60 kr (Z7 (k:=1) kr kr (ZgA Tryz.underlying4) (Z7 (k:=1) kr kr (ZbX Tryz.underlying3) (Z7 (k:=1) kr kr (ZbX Tryz.underlying3) (Z7 (k:=1) kr kr (ZbX Tryz.underlying3) ZcX))))).map (fun p=>(⟨p.1,p.2.1,p.2.2.1,p.2.2.2.1⟩:OpD)) (fun _=>rfl)
theorem Zpd:Zdi Tryz.prog 30 rTx:=(ZbJ (tot:=3) Tryz.underlying30 kr (Z7 (k:=1) kr kr (ZbX Tryz.underlying3) (Z7 (k:=1) kr kr (ZgA Tryz.underlying4) (Z7 (k:=1) kr kr (Zb9 Tryz.underlying28 kr Zo0) ZcX)))).map (fun p=>(⟨p.1,p.2.1,p.2.2.1⟩:TxD)) (fun _=>rfl)
theorem Zm5:Zdi Tryz.prog 70 ZP:=(ZbJ (tot:=2) Tryz.underlying70 kr (Z7 (k:=1) kr kr (ZbX Tryz.underlying3) (Z7 (k:=1) kr kr (Zb9 Tryz.underlying45 kr (ZbX Tryz.underlying3)) ZcX))).map (fun p=>(⟨p.1,p.2.1⟩:OrdD)) (fun _=>rfl)
theorem Zgs:Zdi Tryz.prog 25 Zu:=(ZbJ (tot:=2) Tryz.underlying25 kr (Z7 (k:=1) kr kr (Zb9 Tryz.underlying22 kr Zpd) (Z7 (k:=1) kr kr (Zb9 Tryz.underlying23 kr Zm5) ZcX))).map (fun p=>(⟨p.1,p.2.1⟩:Zo)) (fun _=>rfl)
theorem Zjb:ownKnob Tryz.prog.godebug=none:=by kernel_rfl
theorem Ziw:laidOutB Tryz.prog=true:=by kernel_rfl
theorem Zhu:∀ t ∈ Tryz.f4.params.toList,Tryz.prog.readableRec t=true∧t<Tryz.prog.types.size:=by
 have h:(Tryz.f4.params.toList.all fun t=>Tryz.prog.readableRec t && Nat.blt t Tryz.prog.types.size)=true:=by kernel_rfl
 intro t ht
 have:=Yat.1 h t ht
 simp only [Yt,Yau] at this
 exact this
set_option maxRecDepth 100000 in
theorem Zf4 (os:Os) (started:os.Started) (H:Type) (enc:TypeId×Value→H) :
   ReturnsInHanded {} Tryz.checked os 4 .any (Rows.topBothSpec.pre6 enc Tryz.prog Tryz.f4 Rows.topBothRow.domain false) (Rows.topBothSpec.post enc Tryz.prog Tryz.f4 false true false false):=by
 refine returnsInHanded_of_change (C:=Tryz.checked) Zjb started kr Tryz.func4
   (ChangeSpec.witness6 (enc:=enc) (C:=Tryz.checked) false ⟨#[],#[.agg #[.slice none 0 0,.slice none 0 0],.agg #[.slice none 0 0,.slice none 0 0]],[]⟩ 8 kr kr kr kr) ?_
 intro W base args ds gs before hval hW _ _
 have hA:=(ZgD (Zk5 Tryz.underlying25 Zgs) (ZgD (Zk5 Tryz.underlying25 Zgs) (Zoe (P:=Tryz.prog))))
 exact Zin (P:=Tryz.prog) (fn:=Tryz.f4) (s:=Rows.topBothSpec) Ziw Zhu hA (by rw [Tryz.params4]) (fun b=>ZmY b.1 b.2.1) rfl kr Tryz.underlying4
   (fun H ds h=>by
     rw [Tryz.params4] at h
     match ds,h with
     | [d0,d1],_=>rfl) H enc W base args ds gs before hval hW
theorem ZlO:(Rows.topBothRow.inPlace == Tryz.prog.inPlace 4)=true:=by kernel_rfl
theorem Zlv:(Rows.topBothRow.unfollowed == Tryz.prog.unfollowed 4)=true:=by kernel_rfl
theorem Zmb:(Rows.topBothRow.recurses == Tryz.prog.recurses 4)=true:=by kernel_rfl
theorem Zls:(Rows.topBothRow.named == Tryz.prog.varsNamed 4)=true:=by kernel_rfl
theorem Zga:joinedFacts Tryz.prog 4 Tryz.f4 Rows.topBothSpec Rows.topBothRow=true:=by
 unfold joinedFacts
 rw [ZlO,Zlv,Zmb,Zls]
 kernel_rfl
theorem Zh4:Rows.topBothRow.holds Tryz.pinned (OpenSpec.ofChange Rows.topBothSpec):=
 OpenClaim.holds_of_wide 4 Tryz.f4 rfl rfl rfl rfl rfl rfl rfl ⟨rfl,rfl,rfl,rfl,rfl⟩ rfl rfl rfl rfl rfl kr Tryz.func4 Zga
   (Yw kr) (by unfold Func.isWrapper;first | (rw [Ye (by decide +kernel)];kernel_rfl) | (rw [Yb (by decide +kernel)];exact ⟨rfl,rfl⟩))
   (fun os started H enc _=>Zf4 os started H enc)
theorem topBoth_proved:Rows.TopBothSaid:=Zh4
end Go.Proofs.YtlkpllemoepamaaGreat
