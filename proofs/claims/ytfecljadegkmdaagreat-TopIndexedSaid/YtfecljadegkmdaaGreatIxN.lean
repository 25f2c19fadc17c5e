/- TopIndexed: from the contract to the given row. No condition. -/
import Derived.Test.YtfecljadegkmdaaGreatJ4
import Derived.Test.YtfecljadegkmdaaGreatRows
namespace Go.Proofs.YtfecljadegkmdaaGreat
open Go Go.Gm Go.ChangeShapes Go.WideShapes Go.ChangeAt Go.RowKit
set_option linter.unusedVariables false
theorem Zmt:Zds Tryz.prog 70 rOp:=(Zbq (tot:=4) Tryz.underlying70 kr (ZU (k:=1) kr kr (ZfQ Tryz.underlying4) (ZU (k:=1) kr kr (ZaI Tryz.underlying3) (ZU (k:=1) kr kr (ZaI Tryz.underlying3) (ZU (k:=1) kr kr (ZaI Tryz.underlying3) Zcr))))).map (fun p=>(⟨p.1,p.2.1,p.2.2.1,p.2.2.2.1⟩:OpD)) (fun _=>rfl)
theorem ZmB:Zds Tryz.prog 36 rTx:=(Zbq (tot:=3) Tryz.underlying36 kr (ZU (k:=1) kr kr (ZaI Tryz.underlying3) (ZU (k:=1) kr kr (ZfQ Tryz.underlying4) (ZU (k:=1) kr kr (ZcN Tryz.underlying34 kr Zmt) Zcr)))).map (fun p=>(⟨p.1,p.2.1,p.2.2.1⟩:TxD)) (fun _=>rfl)
theorem ZkI:Zds Tryz.prog 39 Zv:=(Zbq (tot:=2) Tryz.underlying39 kr (ZU (k:=1) kr kr (ZaI Tryz.underlying3) (ZU (k:=1) kr kr (ZcN Tryz.underlying37 kr (ZaI Tryz.underlying3)) Zcr))).map (fun p=>(⟨p.1,p.2.1⟩:OrdD)) (fun _=>rfl)
theorem Zmr:Zds Tryz.prog 41 rEd:=(Zbq (tot:=7) Tryz.underlying41 kr (ZU (k:=1) kr kr (ZaI Tryz.underlying3) (ZU (k:=3) kr kr ZmB (ZU (k:=2) kr kr ZkI (ZU (k:=1) kr kr (ZaI Tryz.underlying3) Zcr))))).map (fun p=>(⟨p.1,p.2.1,p.2.2.1,p.2.2.2.1⟩:EdD)) (fun _=>rfl)
theorem Zfs:ownKnob Tryz.prog.godebug=none:=by kernel_rfl
theorem ZeA:laidOutB Tryz.prog=true:=by kernel_rfl
theorem Zeh:∀ t ∈ Tryz.f6.params.toList,Tryz.prog.readableRec t=true∧t<Tryz.prog.types.size:=by
 have h:(Tryz.f6.params.toList.all fun t=>Tryz.prog.readableRec t && Nat.blt t Tryz.prog.types.size)=true:=by kernel_rfl
 intro t ht
 have:=Yag.1 h t ht
 simp only [Yr,Yav] at this
 exact this
set_option maxRecDepth 100000 in
theorem ZdF (os:Os) (started:os.Started) (H:Type) (enc:TypeId×Value→H) :
   ReturnsInHanded {} Tryz.checked os 6 .any (Rows.topIndexedSpec.pre6 enc Tryz.prog Tryz.f6 Rows.topIndexedRow.domain false) (Rows.topIndexedSpec.post enc Tryz.prog Tryz.f6 false true false false):=by
 refine returnsInHanded_of_change (C:=Tryz.checked) Zfs started kr Tryz.func6
   (ChangeSpec.witness6 (enc:=enc) (C:=Tryz.checked) false ⟨#[],#[.slice none 0 0,.int .i64 0],[]⟩ 8 kr kr kr kr) ?_
 intro W base args ds gs before hval hW _ _
 have hA:=(ZfG (Zi0 kr (ZcN Tryz.underlying72 kr Zmr)) (ZfG (Zi0 kr (ZaI Tryz.underlying3)) (Zk8 (P:=Tryz.prog))))
 exact Zhn (P:=Tryz.prog) (fn:=Tryz.f6) (s:=Rows.topIndexedSpec) ZeA Zeh hA (by rw [Tryz.params6]) (fun b=>Zg3 b.1 b.2.1) rfl kr Tryz.underlying4
   (fun H ds h=>by
     rw [Tryz.params6] at h
     match ds,h with
     | [d0,d1],_=>rfl) H enc W base args ds gs before hval hW
theorem Zgk:(Rows.topIndexedRow.inPlace == Tryz.prog.inPlace 6)=true:=by kernel_rfl
theorem Zgq:(Rows.topIndexedRow.unfollowed == Tryz.prog.unfollowed 6)=true:=by kernel_rfl
theorem Zf7:(Rows.topIndexedRow.recurses == Tryz.prog.recurses 6)=true:=by kernel_rfl
theorem Zgi:(Rows.topIndexedRow.named == Tryz.prog.varsNamed 6)=true:=by kernel_rfl
theorem ZdS:joinedFacts Tryz.prog 6 Tryz.f6 Rows.topIndexedSpec Rows.topIndexedRow=true:=by
 unfold joinedFacts
 rw [Zgk,Zgq,Zf7,Zgi]
 kernel_rfl
theorem ZeX:Rows.topIndexedRow.holds Tryz.pinned (OpenSpec.ofChange Rows.topIndexedSpec):=
 OpenClaim.holds_of_wide 6 Tryz.f6 rfl rfl rfl rfl rfl rfl rfl ⟨rfl,rfl,rfl,rfl,rfl⟩ rfl rfl rfl rfl rfl kr Tryz.func6 ZdS
   (YV kr) (by unfold Func.isWrapper;first | (rw [Ye (by decide +kernel)];kernel_rfl) | (rw [Yb (by decide +kernel)];exact ⟨rfl,rfl⟩))
   (fun os started H enc _=>ZdF os started H enc)
theorem topIndexed_proved:Rows.TopIndexedSaid:=ZeX
end Go.Proofs.YtfecljadegkmdaaGreat
