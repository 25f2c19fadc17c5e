/- TopStronger: from the contract to the given row. No condition. -/
import Derived.Test.YtdpkkdigojkpaaaGreatJ9
import Derived.Test.YtdpkkdigojkpaaaGreatLibW
import Derived.Test.YtdpkkdigojkpaaaGreatRows
namespace Go.Proofs.YtdpkkdigojkpaaaGreat
open Go Go.Gm Go.ChangeShapes Go.WideShapes Go.ChangeAt Go.RowKit
set_option linter.unusedVariables false
theorem ZoS:Zc2 Tryz.prog 75 rOp:=(Zbu (tot:=4) Tryz.underlying75 (by kernel_rfl) (Z0 (k:=1) (by kernel_rfl) (by kernel_rfl) (ZfS Tryz.underlying4) (Z0 (k:=1) (by kernel_rfl) (by kernel_rfl) (Za8 Tryz.underlying3) (Z0 (k:=1) (by kernel_rfl) (by kernel_rfl) (Za8 Tryz.underlying3) (Z0 (k:=1) (by kernel_rfl) (by kernel_rfl) (Za8 Tryz.underlying3) ZcF))))).map (fun p=>(⟨p.1,p.2.1,p.2.2.1,p.2.2.2.1⟩:OpD)) (fun _=>rfl)
theorem Znz:Zc2 Tryz.prog 33 rTx:=(Zbu (tot:=3) Tryz.underlying33 (by kernel_rfl) (Z0 (k:=1) (by kernel_rfl) (by kernel_rfl) (Za8 Tryz.underlying3) (Z0 (k:=1) (by kernel_rfl) (by kernel_rfl) (ZfS Tryz.underlying4) (Z0 (k:=1) (by kernel_rfl) (by kernel_rfl) (ZbZ Tryz.underlying31 (by kernel_rfl) ZoS) ZcF)))).map (fun p=>(⟨p.1,p.2.1,p.2.2.1⟩:TxD)) (fun _=>rfl)
theorem ZmV:Zc2 Tryz.prog 36 ZF:=(Zbu (tot:=2) Tryz.underlying36 (by kernel_rfl) (Z0 (k:=1) (by kernel_rfl) (by kernel_rfl) (Za8 Tryz.underlying3) (Z0 (k:=1) (by kernel_rfl) (by kernel_rfl) (ZbZ Tryz.underlying34 (by kernel_rfl) (Za8 Tryz.underlying3)) ZcF))).map (fun p=>(⟨p.1,p.2.1⟩:OrdD)) (fun _=>rfl)
theorem ZkE:Zc2 Tryz.prog 30 Zr:=(Zbu (tot:=2) Tryz.underlying30 (by kernel_rfl) (Z0 (k:=1) (by kernel_rfl) (by kernel_rfl) (ZbZ Tryz.underlying27 (by kernel_rfl) Znz) (Z0 (k:=1) (by kernel_rfl) (by kernel_rfl) (ZbZ Tryz.underlying28 (by kernel_rfl) ZmV) ZcF))).map (fun p=>(⟨p.1,p.2.1⟩:Zn)) (fun _=>rfl)
theorem ZeO:ownKnob Tryz.prog.godebug=none:=by kernel_rfl
theorem Zei:laidOutB Tryz.prog=true:=by kernel_rfl
theorem ZdY:∀ t ∈ Tryz.f4.params.toList,Tryz.prog.readableRec t=true∧t<Tryz.prog.types.size:=by
 have h:(Tryz.f4.params.toList.all fun t=>Tryz.prog.readableRec t && Nat.blt t Tryz.prog.types.size)=true:=by kernel_rfl
 intro t ht
 have:=List.all_eq_true.1 h t ht
 simp only [Bool.and_eq_true,Nat.blt_eq] at this
 exact this
set_option maxRecDepth 100000 in
theorem Zdh (os:Os) (started:os.Started) (H:Type) (enc:TypeId×Value→H) :
   ReturnsInHanded {} Tryz.checked os 4 .any (Rows.topStrongerSpec.pre6 enc Tryz.prog Tryz.f4 Rows.topStrongerRow.domain false) (Rows.topStrongerSpec.post enc Tryz.prog Tryz.f4 false true false false):=by
 refine returnsInHanded_of_change (C:=Tryz.checked) ZeO started (by kernel_rfl) Tryz.func4
   (ChangeSpec.witness6 (enc:=enc) (C:=Tryz.checked) false ⟨#[],#[.agg #[.slice none 0 0,.slice none 0 0],.int .i64 0],[]⟩ 8 (by kernel_rfl) (by kernel_rfl) (by kernel_rfl) (by kernel_rfl)) ?_
 intro W base args ds gs before hval hW _ _
 have hA:=(ZfX (Zoy Tryz.underlying30 ZkE) (ZfX (Zpb (by kernel_rfl) (Za8 Tryz.underlying3)) (Zlt (P:=Tryz.prog))))
 exact Zh6 (P:=Tryz.prog) (fn:=Tryz.f4) (s:=Rows.topStrongerSpec) Zei ZdY hA (by rw [Tryz.params4]) (fun b=>Zgn b.1 b.2.1) rfl (by kernel_rfl) Tryz.underlying4
   (fun H ds h=>by
     rw [Tryz.params4] at h
     match ds,h with
     | [d0,d1],_=>rfl) H enc W base args ds gs before hval hW
theorem ZfI:(Rows.topStrongerRow.inPlace == Tryz.prog.inPlace 4)=true:=by kernel_rfl
theorem ZfD:(Rows.topStrongerRow.unfollowed == Tryz.prog.unfollowed 4)=true:=by kernel_rfl
theorem ZfG:(Rows.topStrongerRow.recurses == Tryz.prog.recurses 4)=true:=by kernel_rfl
theorem ZfK:(Rows.topStrongerRow.named == Tryz.prog.varsNamed 4)=true:=by kernel_rfl
theorem Zdb:joinedFacts Tryz.prog 4 Tryz.f4 Rows.topStrongerSpec Rows.topStrongerRow=true:=by
 unfold joinedFacts
 rw [ZfI,ZfD,ZfG,ZfK]
 kernel_rfl
theorem Zeg:Rows.topStrongerRow.holds Tryz.pinned (OpenSpec.ofChange Rows.topStrongerSpec):=
 OpenClaim.holds_of_wide 4 Tryz.f4 rfl rfl rfl rfl rfl rfl rfl ⟨rfl,rfl,rfl,rfl,rfl⟩ rfl rfl rfl rfl rfl (by kernel_rfl) Tryz.func4 Zdb
   (of_decide_eq_true (by kernel_rfl)) (by unfold Func.isWrapper;first | (rw [if_pos (by decide +kernel)];kernel_rfl) | (rw [if_neg (by decide +kernel)];exact ⟨rfl,rfl⟩))
   (fun os started H enc _=>Zdh os started H enc)
theorem topStronger_proved:Rows.TopStrongerSaid:=Zeg
end Go.Proofs.YtdpkkdigojkpaaaGreat
