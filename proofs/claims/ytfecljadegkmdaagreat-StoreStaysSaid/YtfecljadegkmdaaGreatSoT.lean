/- StoreStays: from the contract to the given row. No condition. -/
import Derived.Test.YtfecljadegkmdaaGreatJ6
import Derived.Test.YtfecljadegkmdaaGreatRows
namespace Go.Proofs.YtfecljadegkmdaaGreat
open Go Go.Gm Go.ChangeShapes Go.WideShapes Go.ChangeAt Go.RowKit
set_option linter.unusedVariables false
theorem Zqf:Zeb Tryz.prog 70 rOp:=(Zbp (tot:=4) Tryz.underlying70 kr (ZV (k:=1) kr kr (ZhY Tryz.underlying4) (ZV (k:=1) kr kr (Zbc Tryz.underlying3) (ZV (k:=1) kr kr (Zbc Tryz.underlying3) (ZV (k:=1) kr kr (Zbc Tryz.underlying3) Zck))))).map (fun p=>(⟨p.1,p.2.1,p.2.2.1,p.2.2.2.1⟩:OpD)) (fun _=>rfl)
theorem Zjb:Zeb Tryz.prog 36 rTx:=(Zbp (tot:=3) Tryz.underlying36 kr (ZV (k:=1) kr kr (Zbc Tryz.underlying3) (ZV (k:=1) kr kr (ZhY Tryz.underlying4) (ZV (k:=1) kr kr (Zbm Tryz.underlying34 kr Zqf) Zck)))).map (fun p=>(⟨p.1,p.2.1,p.2.2.1⟩:TxD)) (fun _=>rfl)
theorem Zhh:Zeb Tryz.prog 39 Zv:=(Zbp (tot:=2) Tryz.underlying39 kr (ZV (k:=1) kr kr (Zbc Tryz.underlying3) (ZV (k:=1) kr kr (Zbm Tryz.underlying37 kr (Zbc Tryz.underlying3)) Zck))).map (fun p=>(⟨p.1,p.2.1⟩:OrdD)) (fun _=>rfl)
theorem ZqQ:Zeb Tryz.prog 41 rEd:=(Zbp (tot:=7) Tryz.underlying41 kr (ZV (k:=1) kr kr (Zbc Tryz.underlying3) (ZV (k:=3) kr kr Zjb (ZV (k:=2) kr kr Zhh (ZV (k:=1) kr kr (Zbc Tryz.underlying3) Zck))))).map (fun p=>(⟨p.1,p.2.1,p.2.2.1,p.2.2.2.1⟩:EdD)) (fun _=>rfl)
theorem Zli:Zeb Tryz.prog 43 Zaa:=(Zbp (tot:=4) Tryz.underlying43 kr (ZV (k:=1) kr kr (Zbm Tryz.underlying27 kr Zjb) (ZV (k:=1) kr kr (Zbm Tryz.underlying27 kr Zjb) (ZV (k:=1) kr kr (Zbm Tryz.underlying28 kr Zhh) (ZV (k:=1) kr kr (Zbm Tryz.underlying28 kr Zhh) Zck))))).map (fun p=>(⟨p.1,p.2.1,p.2.2.1,p.2.2.2.1⟩:ZK)) (fun _=>rfl)
theorem Znt:Zeb Tryz.prog 45 Zel:=(Zbp (tot:=13) Tryz.underlying45 kr (ZV (k:=1) kr kr (Zbc Tryz.underlying3) (ZV (k:=7) kr kr ZqQ (ZV (k:=4) kr kr Zli (ZV (k:=1) kr kr (Zbc Tryz.underlying3) Zck))))).map (fun p=>(⟨p.1,p.2.1,p.2.2.1,p.2.2.2.1⟩:Zg8)) (fun _=>rfl)
theorem ZhN:ownKnob Tryz.prog.godebug=none:=by kernel_rfl
theorem ZgN:laidOutB Tryz.prog=true:=by kernel_rfl
theorem Zf7:∀ t ∈ Tryz.f4.params.toList,Tryz.prog.readableRec t=true∧t<Tryz.prog.types.size:=by
 have h:(Tryz.f4.params.toList.all fun t=>Tryz.prog.readableRec t && Nat.blt t Tryz.prog.types.size)=true:=by kernel_rfl
 intro t ht
 have:=Yau.1 h t ht
 simp only [Yv,YaI] at this
 exact this
set_option maxRecDepth 100000 in
theorem ZfR (os:Os) (started:os.Started) (H:Type) (enc:TypeId×Value→H) :
   ReturnsInHanded {} Tryz.checked os 4 .any (Rows.storeStaysSpec.pre6 enc Tryz.prog Tryz.f4 Rows.storeStaysRow.domain false) (Rows.storeStaysSpec.post enc Tryz.prog Tryz.f4 false true false false):=by
 refine returnsInHanded_of_change (C:=Tryz.checked) ZhN started kr Tryz.func4
   (ChangeSpec.witness6 (enc:=enc) (C:=Tryz.checked) false ⟨#[],#[.slice none 0 0],[]⟩ 8 kr kr kr kr) ?_
 intro W base args ds gs before hval hW _ _
 have hA:=(ZnH (Zqv kr (Zbm Tryz.underlying22 kr Znt)) (Zp7 (P:=Tryz.prog)))
 exact Zku (P:=Tryz.prog) (fn:=Tryz.f4) (s:=Rows.storeStaysSpec) ZgN Zf7 hA (by rw [Tryz.params4]) (fun b=>Zkg b.1) rfl kr Tryz.underlying4
   (fun H ds h=>by
     rw [Tryz.params4] at h
     match ds,h with
     | [d0],_=>rfl) H enc W base args ds gs before hval hW
theorem ZiG:(Rows.storeStaysRow.inPlace == Tryz.prog.inPlace 4)=true:=by kernel_rfl
theorem Zji:(Rows.storeStaysRow.unfollowed == Tryz.prog.unfollowed 4)=true:=by kernel_rfl
theorem ZiW:(Rows.storeStaysRow.recurses == Tryz.prog.recurses 4)=true:=by kernel_rfl
theorem Zi9:(Rows.storeStaysRow.named == Tryz.prog.varsNamed 4)=true:=by kernel_rfl
theorem Zfx:joinedFacts Tryz.prog 4 Tryz.f4 Rows.storeStaysSpec Rows.storeStaysRow=true:=by
 unfold joinedFacts
 rw [ZiG,Zji,ZiW,Zi9]
 kernel_rfl
theorem ZgQ:Rows.storeStaysRow.holds Tryz.pinned (OpenSpec.ofChange Rows.storeStaysSpec):=
 OpenClaim.holds_of_wide 4 Tryz.f4 rfl rfl rfl rfl rfl rfl rfl ⟨rfl,rfl,rfl,rfl,rfl⟩ rfl rfl rfl rfl rfl kr Tryz.func4 Zfx
   (YV kr) (by unfold Func.isWrapper;first | (rw [Yf (by decide +kernel)];kernel_rfl) | (rw [Yb (by decide +kernel)];exact ⟨rfl,rfl⟩))
   (fun os started H enc _=>ZfR os started H enc)
theorem storeStays_proved:Rows.StoreStaysSaid:=ZgQ
end Go.Proofs.YtfecljadegkmdaaGreat
