/- TopIdle: from the contract to the given row. No condition. -/
import Derived.Test.YtlkpllemoepamaaGreatJ18
import Derived.Test.YtlkpllemoepamaaGreatLibW
import Derived.Test.YtlkpllemoepamaaGreatRows
namespace Go.Proofs.YtlkpllemoepamaaGreat
open Go Go.Gm Go.ChangeShapes Go.WideShapes Go.ChangeAt Go.RowKit
set_option linter.unusedVariables false
theorem Zry:ZdF Tryz.prog 60 rOp:=(ZbQ (tot:=4) Tryz.underlying60 kr (Zae (k:=1) kr kr (ZgU Tryz.underlying4) (Zae (k:=1) kr kr (Zca Tryz.underlying3) (Zae (k:=1) kr kr (Zca Tryz.underlying3) (Zae (k:=1) kr kr (Zca Tryz.underlying3) Zde))))).map (fun p=>(⟨p.1,p.2.1,p.2.2.1,p.2.2.2.1⟩:OpD)) (fun _=>rfl)
theorem Zl0:ZdF Tryz.prog 30 rTx:=(ZbQ (tot:=3) Tryz.underlying30 kr (Zae (k:=1) kr kr (Zca Tryz.underlying3) (Zae (k:=1) kr kr (ZgU Tryz.underlying4) (Zae (k:=1) kr kr (Zcz Tryz.underlying28 kr Zry) Zde)))).map (fun p=>(⟨p.1,p.2.1,p.2.2.1⟩:TxD)) (fun _=>rfl)
theorem Zn4:ZdF Tryz.prog 70 ZJ:=(ZbQ (tot:=2) Tryz.underlying70 kr (Zae (k:=1) kr kr (Zca Tryz.underlying3) (Zae (k:=1) kr kr (Zcz Tryz.underlying45 kr (Zca Tryz.underlying3)) Zde))).map (fun p=>(⟨p.1,p.2.1⟩:OrdD)) (fun _=>rfl)
theorem ZmS:ZdF Tryz.prog 25 Zw:=(ZbQ (tot:=2) Tryz.underlying25 kr (Zae (k:=1) kr kr (Zcz Tryz.underlying22 kr Zl0) (Zae (k:=1) kr kr (Zcz Tryz.underlying23 kr Zn4) Zde))).map (fun p=>(⟨p.1,p.2.1⟩:Zr)) (fun _=>rfl)
theorem Zks:ownKnob Tryz.prog.godebug=none:=by kernel_rfl
theorem Ziw:laidOutB Tryz.prog=true:=by kernel_rfl
theorem ZhA:∀ t ∈ Tryz.f6.params.toList,Tryz.prog.readableRec t=true∧t<Tryz.prog.types.size:=by
 have h:(Tryz.f6.params.toList.all fun t=>Tryz.prog.readableRec t && Nat.blt t Tryz.prog.types.size)=true:=by kernel_rfl
 intro t ht
 have:=YaT.1 h t ht
 simp only [Yr,YaA] at this
 exact this
set_option maxRecDepth 100000 in
theorem ZgK (os:Os) (started:os.Started) (H:Type) (enc:TypeId×Value→H) :
   ReturnsInHanded {} Tryz.checked os 6 .any (Rows.topIdleSpec.pre6 enc Tryz.prog Tryz.f6 Rows.topIdleRow.domain false) (Rows.topIdleSpec.post enc Tryz.prog Tryz.f6 false true false false):=by
 refine returnsInHanded_of_change (C:=Tryz.checked) Zks started kr Tryz.func6
   (ChangeSpec.witness6 (enc:=enc) (C:=Tryz.checked) false ⟨#[],#[.agg #[.slice none 0 0,.slice none 0 0],.agg #[.int .i64 0,.bool false,.slice none 0 0]],[]⟩ 8 kr kr kr kr) ?_
 intro W base args ds gs before hval hW _ _
 have hA:=(Zhf (ZlT Tryz.underlying25 ZmS) (Zhf (ZlT Tryz.underlying30 Zl0) (Zog (P:=Tryz.prog))))
 exact Ziu (P:=Tryz.prog) (fn:=Tryz.f6) (s:=Rows.topIdleSpec) Ziw ZhA hA (by rw [Tryz.params6]) (fun b=>ZpR b.1 b.2.1) rfl kr Tryz.underlying4
   (fun H ds h=>by
     rw [Tryz.params6] at h
     match ds,h with
     | [d0,d1],_=>rfl) H enc W base args ds gs before hval hW
theorem Znp:(Rows.topIdleRow.inPlace == Tryz.prog.inPlace 6)=true:=by kernel_rfl
theorem ZmL:(Rows.topIdleRow.unfollowed == Tryz.prog.unfollowed 6)=true:=by kernel_rfl
theorem Zne:(Rows.topIdleRow.recurses == Tryz.prog.recurses 6)=true:=by kernel_rfl
theorem ZmC:(Rows.topIdleRow.named == Tryz.prog.varsNamed 6)=true:=by kernel_rfl
theorem ZgN:joinedFacts Tryz.prog 6 Tryz.f6 Rows.topIdleSpec Rows.topIdleRow=true:=by
 unfold joinedFacts
 rw [Znp,ZmL,Zne,ZmC]
 kernel_rfl
theorem Zjj:Rows.topIdleRow.holds Tryz.pinned (OpenSpec.ofChange Rows.topIdleSpec):=
 OpenClaim.holds_of_wide 6 Tryz.f6 rfl rfl rfl rfl rfl rfl rfl ⟨rfl,rfl,rfl,rfl,rfl⟩ rfl rfl rfl rfl rfl kr Tryz.func6 ZgN
   (Yt kr) (by unfold Func.isWrapper;first | (rw [Yf (by decide +kernel)];kernel_rfl) | (rw [Yc (by decide +kernel)];exact ⟨rfl,rfl⟩))
   (fun os started H enc _=>ZgK os started H enc)
theorem topIdle_proved:Rows.TopIdleSaid:=Zjj
end Go.Proofs.YtlkpllemoepamaaGreat
