/- TopAborted: from the contract to the given row. No condition. -/
import Derived.Test.YtlkpllemoepamaaGreatJ6
import Derived.Test.YtlkpllemoepamaaGreatRows
namespace Go.Proofs.YtlkpllemoepamaaGreat
open Go Go.Gm Go.ChangeShapes Go.WideShapes Go.ChangeAt Go.RowKit
set_option linter.unusedVariables false
theorem ZrI:ZeK Tryz.prog 60 rOp:=(ZeX (tot:=4) Tryz.underlying60 kr (Zba (k:=1) kr kr (Zhp Tryz.underlying4) (Zba (k:=1) kr kr (ZbM Tryz.underlying3) (Zba (k:=1) kr kr (ZbM Tryz.underlying3) (Zba (k:=1) kr kr (ZbM Tryz.underlying3) Zhk))))).map (fun p=>(⟨p.1,p.2.1,p.2.2.1,p.2.2.2.1⟩:OpD)) (fun _=>rfl)
theorem Zpu:ZeK Tryz.prog 70 ZH:=(ZeX (tot:=2) Tryz.underlying70 kr (Zba (k:=1) kr kr (ZbM Tryz.underlying3) (Zba (k:=1) kr kr (ZfR Tryz.underlying45 kr (ZbM Tryz.underlying3)) Zhk))).map (fun p=>(⟨p.1,p.2.1⟩:OrdD)) (fun _=>rfl)
theorem ZpT:Zc9 Tryz.prog 30 rTx fun t=>t.ops.length*32≤reachBytes:=(Zd1 (tot:=3) Tryz.underlying30 kr (Zbq (k:=1) kr kr (Zea (ZbM Tryz.underlying3)) (Zbq (k:=1) kr kr (Zea (Zhp Tryz.underlying4)) (Zbq (k:=1) kr kr (Ze4 Tryz.underlying28 kr (show Tryz.prog.bytesOf 60=32 by kernel_rfl) (Zea ZrI)) Zfu)))).map (fun p=>(⟨p.1,p.2.1,p.2.2.1⟩:TxD)) (fun _=>rfl) fun _ h=>h.2.2.1.1
theorem Zk2:Zc9 Tryz.prog 25 Zv fun g=>∀ t ∈ g.txs,t.ops.length*32≤reachBytes:=(Zd1 (tot:=2) Tryz.underlying25 kr (Zbq (k:=1) kr kr (Ze4 (bs:=40) Tryz.underlying22 kr kr ZpT) (Zbq (k:=1) kr kr (Zea (ZfR Tryz.underlying23 kr Zpu)) Zfu))).map (fun p=>(⟨p.1,p.2.1⟩:Zr)) (fun _=>rfl) fun _ h=>h.1.2
theorem ZgT:ownKnob Tryz.prog.godebug=none:=by kernel_rfl
theorem Zf9:laidOutB Tryz.prog=true:=by kernel_rfl
theorem Ze8:∀ t ∈ Tryz.f9.params.toList,Tryz.prog.readableRec t=true∧t<Tryz.prog.types.size:=by
 have h:(Tryz.f9.params.toList.all fun t=>Tryz.prog.readableRec t && Nat.blt t Tryz.prog.types.size)=true:=by kernel_rfl
 intro t ht
 have:=YaT.1 h t ht
 simp only [Yt,YaC] at this
 exact this
set_option maxRecDepth 100000 in
theorem ZeD (os:Os) (started:os.Started) (H:Type) (enc:TypeId×Value→H) :
   ReturnsInHanded {} Tryz.checked os 9 .any (Rows.topAbortedSpec.pre6 enc Tryz.prog Tryz.f9 Rows.topAbortedRow.domain false) (Rows.topAbortedSpec.post enc Tryz.prog Tryz.f9 false true false false):=by
 refine returnsInHanded_of_change_sized (C:=Tryz.checked) ZgT started kr Tryz.func9
   (ChangeSpec.witness6 (enc:=enc) (C:=Tryz.checked) false ⟨#[],#[.agg #[.slice none 0 0,.slice none 0 0],.int .i64 0],[]⟩ 8 kr kr kr kr) ?_
 intro W base args ds gs before hval hW _ hwt _
 have hA:=(Zhi (ZsG Tryz.underlying25 Zk2) (Zhi (Zuf (ZqW kr (ZbM Tryz.underlying3))) (Zpq (P:=Tryz.prog))))
 exact Zh7 (P:=Tryz.prog) (fn:=Tryz.f9) (s:=Rows.topAbortedSpec) Zf9 Ze8 hA (by rw [Tryz.params9]) (fun b hz=>ZjZ b.1 b.2.1 hz.1) rfl kr Tryz.underlying4
   (fun H ds h=>by
     rw [Tryz.params9] at h
     match ds,h with
     | [d0,d1],_=>rfl) H enc W base args ds gs before hval hW (fun k hk=>by have:=YaT.1 hwt k (ZcO hk);simpa using this)
theorem ZhI:(Rows.topAbortedRow.inPlace == Tryz.prog.inPlace 9)=true:=by kernel_rfl
theorem ZhW:(Rows.topAbortedRow.unfollowed == Tryz.prog.unfollowed 9)=true:=by kernel_rfl
theorem ZhM:(Rows.topAbortedRow.recurses == Tryz.prog.recurses 9)=true:=by kernel_rfl
theorem Zit:(Rows.topAbortedRow.named == Tryz.prog.varsNamed 9)=true:=by kernel_rfl
theorem ZeP:joinedFacts Tryz.prog 9 Tryz.f9 Rows.topAbortedSpec Rows.topAbortedRow=true:=by
 unfold joinedFacts
 rw [ZhI,ZhW,ZhM,Zit]
 kernel_rfl
theorem ZfI:Rows.topAbortedRow.holds Tryz.pinned (OpenSpec.ofChange Rows.topAbortedSpec):=
 OpenClaim.holds_of_wide 9 Tryz.f9 rfl rfl rfl rfl rfl rfl rfl ⟨rfl,rfl,rfl,rfl,rfl⟩ rfl rfl rfl rfl rfl kr Tryz.func9 ZeP
   (Yr kr) (by unfold Func.isWrapper;first | (rw [Yf (by decide +kernel)];kernel_rfl) | (rw [Yc (by decide +kernel)];exact ⟨rfl,rfl⟩))
   (fun os started H enc _=>ZeD os started H enc)
theorem topAborted_proved:Rows.TopAbortedSaid:=ZfI
end Go.Proofs.YtlkpllemoepamaaGreat
