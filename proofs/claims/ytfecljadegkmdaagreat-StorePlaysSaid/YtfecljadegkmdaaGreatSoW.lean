/- StorePlays: from the contract to the given row. No condition. -/
import Derived.Test.YtfecljadegkmdaaGreatJ7
import Derived.Test.YtfecljadegkmdaaGreatRows
namespace Go.Proofs.YtfecljadegkmdaaGreat
open Go Go.Gm Go.ChangeShapes Go.WideShapes Go.ChangeAt Go.RowKit
set_option linter.unusedVariables false
theorem ZrK:Zek Tryz.prog 70 rOp:=(Zbw (tot:=4) Tryz.underlying70 kr (ZX (k:=1) kr kr (Zh8 Tryz.underlying4) (ZX (k:=1) kr kr (Za0 Tryz.underlying3) (ZX (k:=1) kr kr (Za0 Tryz.underlying3) (ZX (k:=1) kr kr (Za0 Tryz.underlying3) Zcr))))).map (fun p=>(⟨p.1,p.2.1,p.2.2.1,p.2.2.2.1⟩:OpD)) (fun _=>rfl)
theorem ZjK:Zek Tryz.prog 36 rTx:=(Zbw (tot:=3) Tryz.underlying36 kr (ZX (k:=1) kr kr (Za0 Tryz.underlying3) (ZX (k:=1) kr kr (Zh8 Tryz.underlying4) (ZX (k:=1) kr kr (Zbs Tryz.underlying34 kr ZrK) Zcr)))).map (fun p=>(⟨p.1,p.2.1,p.2.2.1⟩:TxD)) (fun _=>rfl)
theorem Zhg:Zek Tryz.prog 39 Zp:=(Zbw (tot:=2) Tryz.underlying39 kr (ZX (k:=1) kr kr (Za0 Tryz.underlying3) (ZX (k:=1) kr kr (Zbs Tryz.underlying37 kr (Za0 Tryz.underlying3)) Zcr))).map (fun p=>(⟨p.1,p.2.1⟩:OrdD)) (fun _=>rfl)
theorem Zr1:Zek Tryz.prog 41 rEd:=(Zbw (tot:=7) Tryz.underlying41 kr (ZX (k:=1) kr kr (Za0 Tryz.underlying3) (ZX (k:=3) kr kr ZjK (ZX (k:=2) kr kr Zhg (ZX (k:=1) kr kr (Za0 Tryz.underlying3) Zcr))))).map (fun p=>(⟨p.1,p.2.1,p.2.2.1,p.2.2.2.1⟩:EdD)) (fun _=>rfl)
theorem ZlJ:Zek Tryz.prog 43 ZC:=(Zbw (tot:=4) Tryz.underlying43 kr (ZX (k:=1) kr kr (Zbs Tryz.underlying27 kr ZjK) (ZX (k:=1) kr kr (Zbs Tryz.underlying27 kr ZjK) (ZX (k:=1) kr kr (Zbs Tryz.underlying28 kr Zhg) (ZX (k:=1) kr kr (Zbs Tryz.underlying28 kr Zhg) Zcr))))).map (fun p=>(⟨p.1,p.2.1,p.2.2.1,p.2.2.2.1⟩:ZK)) (fun _=>rfl)
theorem Zos:Zek Tryz.prog 45 Zbd:=(Zbw (tot:=13) Tryz.underlying45 kr (ZX (k:=1) kr kr (Za0 Tryz.underlying3) (ZX (k:=7) kr kr Zr1 (ZX (k:=4) kr kr ZlJ (ZX (k:=1) kr kr (Za0 Tryz.underlying3) Zcr))))).map (fun p=>(⟨p.1,p.2.1,p.2.2.1,p.2.2.2.1⟩:ZeO)) (fun _=>rfl)
theorem Zh0:ownKnob Tryz.prog.godebug=none:=by kernel_rfl
theorem Zhd:laidOutB Tryz.prog=true:=by kernel_rfl
theorem Zgk:∀ t ∈ Tryz.f3.params.toList,Tryz.prog.readableRec t=true∧t<Tryz.prog.types.size:=by
 have h:(Tryz.f3.params.toList.all fun t=>Tryz.prog.readableRec t && Nat.blt t Tryz.prog.types.size)=true:=by kernel_rfl
 intro t ht
 have:=Yam.1 h t ht
 simp only [Yx,YaM] at this
 exact this
set_option maxRecDepth 100000 in
theorem ZfZ (os:Os) (started:os.Started) (H:Type) (enc:TypeId×Value→H) :
   ReturnsInHanded {} Tryz.checked os 3 .any (Rows.storePlaysSpec.pre6 enc Tryz.prog Tryz.f3 Rows.storePlaysRow.domain false) (Rows.storePlaysSpec.post enc Tryz.prog Tryz.f3 false true false false):=by
 refine returnsInHanded_of_change (C:=Tryz.checked) Zh0 started kr Tryz.func3
   (ChangeSpec.witness6 (enc:=enc) (C:=Tryz.checked) false ⟨#[],#[.slice none 0 0,.int .i64 0,.int .i64 0],[]⟩ 8 kr kr kr kr) ?_
 intro W base args ds gs before hval hW _ _
 have hA:=(Zf0 (Zjp kr (Zbs Tryz.underlying22 kr Zos)) (Zf0 (Zjp kr (Za0 Tryz.underlying3)) (Zf0 (Zjp kr (Za0 Tryz.underlying3)) (Zp8 (P:=Tryz.prog)))))
 exact Zj9 (P:=Tryz.prog) (fn:=Tryz.f3) (s:=Rows.storePlaysSpec) Zhd Zgk hA (by rw [Tryz.params3]) (fun b=>ZkV b.1 b.2.1 b.2.2.1) rfl kr Tryz.underlying4
   (fun H ds h=>by
     rw [Tryz.params3] at h
     match ds,h with
     | [d0,d1,d2],_=>rfl) H enc W base args ds gs before hval hW
theorem ZjG:(Rows.storePlaysRow.inPlace == Tryz.prog.inPlace 3)=true:=by kernel_rfl
theorem ZiU:(Rows.storePlaysRow.unfollowed == Tryz.prog.unfollowed 3)=true:=by kernel_rfl
theorem Zjf:(Rows.storePlaysRow.recurses == Tryz.prog.recurses 3)=true:=by kernel_rfl
theorem Zi6:(Rows.storePlaysRow.named == Tryz.prog.varsNamed 3)=true:=by kernel_rfl
theorem ZfX:joinedFacts Tryz.prog 3 Tryz.f3 Rows.storePlaysSpec Rows.storePlaysRow=true:=by
 unfold joinedFacts
 rw [ZjG,ZiU,Zjf,Zi6]
 kernel_rfl
theorem ZhK:Rows.storePlaysRow.holds Tryz.pinned (OpenSpec.ofChange Rows.storePlaysSpec):=
 OpenClaim.holds_of_wide 3 Tryz.f3 rfl rfl rfl rfl rfl rfl rfl ⟨rfl,rfl,rfl,rfl,rfl⟩ rfl rfl rfl rfl rfl kr Tryz.func3 ZfX
   (Yv kr) (by unfold Func.isWrapper;first | (rw [Yg (by decide +kernel)];kernel_rfl) | (rw [Yb (by decide +kernel)];exact ⟨rfl,rfl⟩))
   (fun os started H enc _=>ZfZ os started H enc)
theorem storePlays_proved:Rows.StorePlaysSaid:=ZhK
end Go.Proofs.YtfecljadegkmdaaGreat
