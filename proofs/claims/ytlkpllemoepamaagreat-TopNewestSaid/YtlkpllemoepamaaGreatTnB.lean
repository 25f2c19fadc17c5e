/- TopNewest: from the contract to the given row. No condition. -/
import Derived.Test.YtlkpllemoepamaaGreatJ6
import Derived.Test.YtlkpllemoepamaaGreatRows
namespace Go.Proofs.YtlkpllemoepamaaGreat
open Go Go.Gm Go.ChangeShapes Go.WideShapes Go.ChangeAt Go.RowKit
set_option linter.unusedVariables false
theorem ZqK:ZdI Tryz.prog 60 rOp:=(ZbW (tot:=4) Tryz.underlying60 kr (Zae (k:=1) kr kr (Zhy Tryz.underlying4) (Zae (k:=1) kr kr (Zbk Tryz.underlying3) (Zae (k:=1) kr kr (Zbk Tryz.underlying3) (Zae (k:=1) kr kr (Zbk Tryz.underlying3) Zdl))))).map (fun p=>(⟨p.1,p.2.1,p.2.2.1,p.2.2.2.1⟩:OpD)) (fun _=>rfl)
theorem Zsw:ZdI Tryz.prog 30 rTx:=(ZbW (tot:=3) Tryz.underlying30 kr (Zae (k:=1) kr kr (Zbk Tryz.underlying3) (Zae (k:=1) kr kr (Zhy Tryz.underlying4) (Zae (k:=1) kr kr (ZbB Tryz.underlying28 kr ZqK) Zdl)))).map (fun p=>(⟨p.1,p.2.1,p.2.2.1⟩:TxD)) (fun _=>rfl)
theorem Zpa:ZdI Tryz.prog 70 ZG:=(ZbW (tot:=2) Tryz.underlying70 kr (Zae (k:=1) kr kr (Zbk Tryz.underlying3) (Zae (k:=1) kr kr (ZbB Tryz.underlying45 kr (Zbk Tryz.underlying3)) Zdl))).map (fun p=>(⟨p.1,p.2.1⟩:OrdD)) (fun _=>rfl)
theorem ZmX:ZdI Tryz.prog 25 Zu:=(ZbW (tot:=2) Tryz.underlying25 kr (Zae (k:=1) kr kr (ZbB Tryz.underlying22 kr Zsw) (Zae (k:=1) kr kr (ZbB Tryz.underlying23 kr Zpa) Zdl))).map (fun p=>(⟨p.1,p.2.1⟩:Zp)) (fun _=>rfl)
theorem ZhQ:ownKnob Tryz.prog.godebug=none:=by kernel_rfl
theorem ZgS:laidOutB Tryz.prog=true:=by kernel_rfl
theorem Zgw:∀ t ∈ Tryz.f7.params.toList,Tryz.prog.readableRec t=true∧t<Tryz.prog.types.size:=by
 have h:(Tryz.f7.params.toList.all fun t=>Tryz.prog.readableRec t && Nat.blt t Tryz.prog.types.size)=true:=by kernel_rfl
 intro t ht
 have:=YaT.1 h t ht
 simp only [Yt,YaB] at this
 exact this
set_option maxRecDepth 100000 in
theorem Ze2 (os:Os) (started:os.Started) (H:Type) (enc:TypeId×Value→H) :
   ReturnsInHanded {} Tryz.checked os 7 .any (Rows.topNewestSpec.pre6 enc Tryz.prog Tryz.f7 Rows.topNewestRow.domain false) (Rows.topNewestSpec.post enc Tryz.prog Tryz.f7 false true false false):=by
 refine returnsInHanded_of_change (C:=Tryz.checked) ZhQ started kr Tryz.func7
   (ChangeSpec.witness6 (enc:=enc) (C:=Tryz.checked) false ⟨#[],#[.agg #[.slice none 0 0,.slice none 0 0],.int .i64 0,.slice none 0 0],[]⟩ 8 kr kr kr kr) ?_
 intro W base args ds gs before hval hW _ _
 have hA:=(Zev (ZqE Tryz.underlying25 ZmX) (Zev (Zlx kr (Zbk Tryz.underlying3)) (Zev (Zlx kr (ZbB Tryz.underlying45 kr (Zbk Tryz.underlying3))) (Zpm (P:=Tryz.prog)))))
 exact Zi3 (P:=Tryz.prog) (fn:=Tryz.f7) (s:=Rows.topNewestSpec) ZgS Zgw hA (by rw [Tryz.params7]) (fun b=>Zj5 b.1 b.2.1 b.2.2.1) rfl kr Tryz.underlying4
   (fun H ds h=>by
     rw [Tryz.params7] at h
     match ds,h with
     | [d0,d1,d2],_=>rfl) H enc W base args ds gs before hval hW
theorem Zjf:(Rows.topNewestRow.inPlace == Tryz.prog.inPlace 7)=true:=by kernel_rfl
theorem ZjM:(Rows.topNewestRow.unfollowed == Tryz.prog.unfollowed 7)=true:=by kernel_rfl
theorem ZjQ:(Rows.topNewestRow.recurses == Tryz.prog.recurses 7)=true:=by kernel_rfl
theorem ZjS:(Rows.topNewestRow.named == Tryz.prog.varsNamed 7)=true:=by kernel_rfl
theorem Ze1:joinedFacts Tryz.prog 7 Tryz.f7 Rows.topNewestSpec Rows.topNewestRow=true:=by
 unfold joinedFacts
 rw [Zjf,ZjM,ZjQ,ZjS]
 kernel_rfl
theorem ZgK:Rows.topNewestRow.holds Tryz.pinned (OpenSpec.ofChange Rows.topNewestSpec):=
 OpenClaim.holds_of_wide 7 Tryz.f7 rfl rfl rfl rfl rfl rfl rfl ⟨rfl,rfl,rfl,rfl,rfl⟩ rfl rfl rfl rfl rfl kr Tryz.func7 Ze1
   (Yr kr) (by unfold Func.isWrapper;first | (rw [Yf (by decide +kernel)];kernel_rfl) | (rw [Yc (by decide +kernel)];exact ⟨rfl,rfl⟩))
   (fun os started H enc _=>Ze2 os started H enc)
theorem topNewest_proved:Rows.TopNewestSaid:=ZgK
end Go.Proofs.YtlkpllemoepamaaGreat
