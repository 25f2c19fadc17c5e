/- TopSame: from the contract to the given row. No condition. -/
import Derived.Test.YtlkpllemoepamaaGreatJ22
import Derived.Test.YtlkpllemoepamaaGreatLibW
import Derived.Test.YtlkpllemoepamaaGreatRows
namespace Go.Proofs.YtlkpllemoepamaaGreat
open Go Go.Gm Go.ChangeShapes Go.WideShapes Go.ChangeAt Go.RowKit
set_option linter.unusedVariables false
theorem Zqs:Zds Tryz.prog 60 rOp:=(ZbQ (tot:=4) Tryz.underlying60 kr (Z9 (k:=1) kr kr (ZgZ Tryz.underlying4) (Z9 (k:=1) kr kr (Za1 Tryz.underlying3) (Z9 (k:=1) kr kr (Za1 Tryz.underlying3) (Z9 (k:=1) kr kr (Za1 Tryz.underlying3) Zc4))))).map (fun p=>(⟨p.1,p.2.1,p.2.2.1,p.2.2.2.1⟩:OpD)) (fun _=>rfl)
theorem ZrL:Zds Tryz.prog 30 rTx:=(ZbQ (tot:=3) Tryz.underlying30 kr (Z9 (k:=1) kr kr (Za1 Tryz.underlying3) (Z9 (k:=1) kr kr (ZgZ Tryz.underlying4) (Z9 (k:=1) kr kr (Zcz Tryz.underlying28 kr Zqs) Zc4)))).map (fun p=>(⟨p.1,p.2.1,p.2.2.1⟩:TxD)) (fun _=>rfl)
theorem Zop:Zds Tryz.prog 70 ZP:=(ZbQ (tot:=2) Tryz.underlying70 kr (Z9 (k:=1) kr kr (Za1 Tryz.underlying3) (Z9 (k:=1) kr kr (Zcz Tryz.underlying45 kr (Za1 Tryz.underlying3)) Zc4))).map (fun p=>(⟨p.1,p.2.1⟩:OrdD)) (fun _=>rfl)
theorem ZmH:Zds Tryz.prog 25 Zs:=(ZbQ (tot:=2) Tryz.underlying25 kr (Z9 (k:=1) kr kr (Zcz Tryz.underlying22 kr ZrL) (Z9 (k:=1) kr kr (Zcz Tryz.underlying23 kr Zop) Zc4))).map (fun p=>(⟨p.1,p.2.1⟩:Zt)) (fun _=>rfl)
theorem ZjT:ownKnob Tryz.prog.godebug=none:=by kernel_rfl
theorem ZiI:laidOutB Tryz.prog=true:=by kernel_rfl
theorem Zhc:∀ t ∈ Tryz.f5.params.toList,Tryz.prog.readableRec t=true∧t<Tryz.prog.types.size:=by
 have h:(Tryz.f5.params.toList.all fun t=>Tryz.prog.readableRec t && Nat.blt t Tryz.prog.types.size)=true:=by kernel_rfl
 intro t ht
 have:=Ya9.1 h t ht
 simp only [Yx,YaA] at this
 exact this
set_option maxRecDepth 100000 in
theorem Zgi (os:Os) (started:os.Started) (H:Type) (enc:TypeId×Value→H) :
   ReturnsInHanded {} Tryz.checked os 5 .any (Rows.topSameSpec.pre6 enc Tryz.prog Tryz.f5 Rows.topSameRow.domain false) (Rows.topSameSpec.post enc Tryz.prog Tryz.f5 false true false false):=by
 refine returnsInHanded_of_change (C:=Tryz.checked) ZjT started kr Tryz.func5
   (ChangeSpec.witness6 (enc:=enc) (C:=Tryz.checked) false ⟨#[],#[.agg #[.slice none 0 0,.slice none 0 0],.int .i64 0,.int .i64 0,.int .i64 0],[]⟩ 8 kr kr kr kr) ?_
 intro W base args ds gs before hval hW _ _
 have hA:=(Zc9 (Zp8 Tryz.underlying25 ZmH) (Zc9 (ZhR kr (Za1 Tryz.underlying3)) (Zc9 (ZhR kr (Za1 Tryz.underlying3)) (Zc9 (ZhR kr (Za1 Tryz.underlying3)) (ZnS (P:=Tryz.prog))))))
 exact Zi9 (P:=Tryz.prog) (fn:=Tryz.f5) (s:=Rows.topSameSpec) ZiI Zhc hA (by rw [Tryz.params5]) (fun b=>ZoZ b.1 b.2.1 b.2.2.1 b.2.2.2.1) rfl kr Tryz.underlying4
   (fun H ds h=>by
     rw [Tryz.params5] at h
     match ds,h with
     | [d0,d1,d2,d3],_=>rfl) H enc W base args ds gs before hval hW
theorem ZmI:(Rows.topSameRow.inPlace == Tryz.prog.inPlace 5)=true:=by kernel_rfl
theorem Zmn:(Rows.topSameRow.unfollowed == Tryz.prog.unfollowed 5)=true:=by kernel_rfl
theorem ZlY:(Rows.topSameRow.recurses == Tryz.prog.recurses 5)=true:=by kernel_rfl
theorem Zml:(Rows.topSameRow.named == Tryz.prog.varsNamed 5)=true:=by kernel_rfl
theorem Zgn:joinedFacts Tryz.prog 5 Tryz.f5 Rows.topSameSpec Rows.topSameRow=true:=by
 unfold joinedFacts
 rw [ZmI,Zmn,ZlY,Zml]
 kernel_rfl
theorem Zin:Rows.topSameRow.holds Tryz.pinned (OpenSpec.ofChange Rows.topSameSpec):=
 OpenClaim.holds_of_wide 5 Tryz.f5 rfl rfl rfl rfl rfl rfl rfl ⟨rfl,rfl,rfl,rfl,rfl⟩ rfl rfl rfl rfl rfl kr Tryz.func5 Zgn
   (Yt kr) (by unfold Func.isWrapper;first | (rw [Yf (by decide +kernel)];kernel_rfl) | (rw [Yc (by decide +kernel)];exact ⟨rfl,rfl⟩))
   (fun os started H enc _=>Zgi os started H enc)
theorem topSame_proved:Rows.TopSameSaid:=Zin
end Go.Proofs.YtlkpllemoepamaaGreat
