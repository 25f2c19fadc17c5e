/- TopOneByOne: from the contract to the given row. No condition. -/
import Derived.Test.YtolmpgbpdapaiaaGreatJ5
import Derived.Test.YtolmpgbpdapaiaaGreatRows
namespace Go.Proofs.YtolmpgbpdapaiaaGreat
open Go Go.Gm Go.ChangeShapes Go.WideShapes Go.ChangeAt Go.RowKit
set_option linter.unusedVariables false
theorem Zrs:Zd8 Tryz.prog 55 rOp:=(ZcE (tot:=4) Tryz.underlying55 kr (Zan (k:=1) kr kr (ZgW Tryz.underlying4) (Zan (k:=1) kr kr (ZbW Tryz.underlying3) (Zan (k:=1) kr kr (ZbW Tryz.underlying3) (Zan (k:=1) kr kr (ZbW Tryz.underlying3) Zd5))))).map (fun p=>(⟨p.1,p.2.1,p.2.2.1,p.2.2.2.1⟩:OpD)) (fun _=>rfl)
theorem Zrf:Zd8 Tryz.prog 59 rTx:=(ZcE (tot:=3) Tryz.underlying59 kr (Zan (k:=1) kr kr (ZbW Tryz.underlying3) (Zan (k:=1) kr kr (ZgW Tryz.underlying4) (Zan (k:=1) kr kr (Zdj Tryz.underlying57 kr Zrs) Zd5)))).map (fun p=>(⟨p.1,p.2.1,p.2.2.1⟩:TxD)) (fun _=>rfl)
theorem ZoC:Zd8 Tryz.prog 39 ZK:=(ZcE (tot:=2) Tryz.underlying39 kr (Zan (k:=1) kr kr (ZbW Tryz.underlying3) (Zan (k:=1) kr kr (Zdj Tryz.underlying32 kr (ZbW Tryz.underlying3)) Zd5))).map (fun p=>(⟨p.1,p.2.1⟩:OrdD)) (fun _=>rfl)
theorem Zj6:Zc4 Tryz.prog 25 Zr fun g=>g.txs.length*40≤reachBytes:=(ZhV (tot:=2) Tryz.underlying25 kr (Zex (k:=1) kr kr (Zjl (bs:=40) Tryz.underlying22 kr kr (Zjt Zrf)) (Zex (k:=1) kr kr (Zjt (Zdj Tryz.underlying23 kr ZoC)) Zkz))).map (fun p=>(⟨p.1,p.2.1⟩:Zl)) (fun _=>rfl) fun _ h=>h.1.1
theorem ZfW:ownKnob Tryz.prog.godebug=none:=by kernel_rfl
theorem ZeF:laidOutB Tryz.prog=true:=by kernel_rfl
theorem Zek:∀ t ∈ Tryz.f4.params.toList,Tryz.prog.readableRec t=true∧t<Tryz.prog.types.size:=by
 have h:(Tryz.f4.params.toList.all fun t=>Tryz.prog.readableRec t && Nat.blt t Tryz.prog.types.size)=true:=by kernel_rfl
 intro t ht
 have:=Yad.1 h t ht
 simp only [Yw,YaA] at this
 exact this
set_option maxRecDepth 100000 in
theorem ZdP (os:Os) (started:os.Started) (H:Type) (enc:TypeId×Value→H) :
   ReturnsInHanded {} Tryz.checked os 4 .any (Rows.topOneByOneSpec.pre6 enc Tryz.prog Tryz.f4 Rows.topOneByOneRow.domain false) (Rows.topOneByOneSpec.post enc Tryz.prog Tryz.f4 false true false false):=by
 refine returnsInHanded_of_change_sized (C:=Tryz.checked) ZfW started kr Tryz.func4
   (ChangeSpec.witness6 (enc:=enc) (C:=Tryz.checked) false ⟨#[],#[.agg #[.slice none 0 0,.slice none 0 0]],[]⟩ 8 kr kr kr kr) ?_
 intro W base args ds gs before hval hW _ hwt _
 have hA:=(ZmX (Zso Tryz.underlying25 Zj6) (Znv (P:=Tryz.prog)))
 exact Zhr (P:=Tryz.prog) (fn:=Tryz.f4) (s:=Rows.topOneByOneSpec) ZeF Zek hA (by rw [Tryz.params4]) (fun b hz=>ZhG b.1 (by have h9:b.1.txs.length*40≤reachBytes:=hz.1;have e:reachBytes=140737488351232:=rfl;omega)) rfl kr Tryz.underlying4
   (fun H ds h=>by
     rw [Tryz.params4] at h
     match ds,h with
     | [d0],_=>rfl) H enc W base args ds gs before hval hW (fun k hk=>by have:=Yad.1 hwt k (Zcl hk);simpa using this)
theorem ZgC:(Rows.topOneByOneRow.inPlace == Tryz.prog.inPlace 4)=true:=by kernel_rfl
theorem Zgx:(Rows.topOneByOneRow.unfollowed == Tryz.prog.unfollowed 4)=true:=by kernel_rfl
theorem ZgB:(Rows.topOneByOneRow.recurses == Tryz.prog.recurses 4)=true:=by kernel_rfl
theorem Zgy:(Rows.topOneByOneRow.named == Tryz.prog.varsNamed 4)=true:=by kernel_rfl
theorem ZdE:joinedFacts Tryz.prog 4 Tryz.f4 Rows.topOneByOneSpec Rows.topOneByOneRow=true:=by
 unfold joinedFacts
 rw [ZgC,Zgx,ZgB,Zgy]
 kernel_rfl
theorem ZeH:Rows.topOneByOneRow.holds Tryz.pinned (OpenSpec.ofChange Rows.topOneByOneSpec):=
 OpenClaim.holds_of_wide 4 Tryz.f4 rfl rfl rfl rfl rfl rfl rfl ⟨rfl,rfl,rfl,rfl,rfl⟩ rfl rfl rfl rfl rfl kr Tryz.func4 ZdE
   (Yd kr) (by unfold Func.isWrapper;first | (rw [Ye (by decide +kernel)];kernel_rfl) | (rw [Yb (by decide +kernel)];exact ⟨rfl,rfl⟩))
   (fun os started H enc _=>ZdP os started H enc)
theorem topOneByOne_proved:Rows.TopOneByOneSaid:=ZeH
end Go.Proofs.YtolmpgbpdapaiaaGreat
