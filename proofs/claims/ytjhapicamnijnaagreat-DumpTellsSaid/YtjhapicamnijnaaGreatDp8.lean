/- DumpTells: from the contract to the given row. No condition. -/
import Derived.Test.YtjhapicamnijnaaGreatJ10
import Derived.Test.YtjhapicamnijnaaGreatLibW
import Derived.Test.YtjhapicamnijnaaGreatRows
namespace Go.Proofs.YtjhapicamnijnaaGreat
open Go Go.Gm Go.ChangeShapes Go.WideShapes Go.ChangeAt Go.RowKit
set_option linter.unusedVariables false
theorem Znr:Zc4 Tryz.prog 59 rOp:=(Zbg (tot:=4) Tryz.underlying59 (by kernel_rfl) (ZK (k:=1) (by kernel_rfl) (by kernel_rfl) (Zgp Tryz.underlying4) (ZK (k:=1) (by kernel_rfl) (by kernel_rfl) (ZaE Tryz.underlying3) (ZK (k:=1) (by kernel_rfl) (by kernel_rfl) (ZaE Tryz.underlying3) (ZK (k:=1) (by kernel_rfl) (by kernel_rfl) (ZaE Tryz.underlying3) Zb0))))).map (fun p=>(⟨p.1,p.2.1,p.2.2.1,p.2.2.2.1⟩:OpD)) (fun _=>rfl)
theorem Zke:Zc4 Tryz.prog 40 rTx:=(Zbg (tot:=3) Tryz.underlying40 (by kernel_rfl) (ZK (k:=1) (by kernel_rfl) (by kernel_rfl) (ZaE Tryz.underlying3) (ZK (k:=1) (by kernel_rfl) (by kernel_rfl) (Zgp Tryz.underlying4) (ZK (k:=1) (by kernel_rfl) (by kernel_rfl) (ZbD Tryz.underlying38 (by kernel_rfl) Znr) Zb0)))).map (fun p=>(⟨p.1,p.2.1,p.2.2.1⟩:TxD)) (fun _=>rfl)
theorem ZiN:Zc4 Tryz.prog 43 Zs:=(Zbg (tot:=2) Tryz.underlying43 (by kernel_rfl) (ZK (k:=1) (by kernel_rfl) (by kernel_rfl) (ZaE Tryz.underlying3) (ZK (k:=1) (by kernel_rfl) (by kernel_rfl) (ZbD Tryz.underlying41 (by kernel_rfl) (ZaE Tryz.underlying3)) Zb0))).map (fun p=>(⟨p.1,p.2.1⟩:OrdD)) (fun _=>rfl)
theorem ZkT:Zc4 Tryz.prog 25 Zm:=(Zbg (tot:=2) Tryz.underlying25 (by kernel_rfl) (ZK (k:=1) (by kernel_rfl) (by kernel_rfl) (ZbD Tryz.underlying22 (by kernel_rfl) Zke) (ZK (k:=1) (by kernel_rfl) (by kernel_rfl) (ZbD Tryz.underlying23 (by kernel_rfl) ZiN) Zb0))).map (fun p=>(⟨p.1,p.2.1⟩:HistD)) (fun _=>rfl)
theorem ZmW:Zc4 Tryz.prog 45 rCmd:=(Zbg (tot:=10) Tryz.underlying45 (by kernel_rfl) (ZK (k:=1) (by kernel_rfl) (by kernel_rfl) (ZaE Tryz.underlying3) (ZK (k:=3) (by kernel_rfl) (by kernel_rfl) Zke (ZK (k:=2) (by kernel_rfl) (by kernel_rfl) ZiN (ZK (k:=1) (by kernel_rfl) (by kernel_rfl) (ZaE Tryz.underlying3) (ZK (k:=1) (by kernel_rfl) (by kernel_rfl) (ZaE Tryz.underlying3) (ZK (k:=1) (by kernel_rfl) (by kernel_rfl) (ZaE Tryz.underlying3) (ZK (k:=1) (by kernel_rfl) (by kernel_rfl) (ZaE Tryz.underlying3) Zb0)))))))).map (fun p=>(⟨p.1,p.2.1,p.2.2.1,p.2.2.2.1,p.2.2.2.2.1,p.2.2.2.2.2.1,p.2.2.2.2.2.2.1⟩:CmdD)) (fun _=>rfl)
theorem ZgY:ownKnob Tryz.prog.godebug=none:=by kernel_rfl
theorem Zgh:laidOutB Tryz.prog=true:=by kernel_rfl
theorem ZfO:∀ t ∈ Tryz.f5.params.toList,Tryz.prog.readableRec t=true∧t<Tryz.prog.types.size:=by
 have h:(Tryz.f5.params.toList.all fun t=>Tryz.prog.readableRec t && Nat.blt t Tryz.prog.types.size)=true:=by kernel_rfl
 intro t ht
 have:=List.all_eq_true.1 h t ht
 simp only [Bool.and_eq_true,Nat.blt_eq] at this
 exact this
set_option maxRecDepth 100000 in
theorem Zez (os:Os) (started:os.Started) (H:Type) (enc:TypeId×Value→H) :
   ReturnsInHanded {} Tryz.checked os 5 .any (Rows.dumpTellsSpec.pre6 enc Tryz.prog Tryz.f5 Rows.dumpTellsRow.domain false) (Rows.dumpTellsSpec.post enc Tryz.prog Tryz.f5 false true false false):=by
 refine returnsInHanded_of_change (C:=Tryz.checked) ZgY started (by kernel_rfl) Tryz.func5
   (ChangeSpec.witness6 (enc:=enc) (C:=Tryz.checked) false ⟨#[],#[.agg #[.slice none 0 0,.slice none 0 0],.slice none 0 0],[]⟩ 8 (by kernel_rfl) (by kernel_rfl) (by kernel_rfl) (by kernel_rfl)) ?_
 intro W base args ds gs before hval hW _ _
 have hA:=(ZgK (Zn6 Tryz.underlying25 ZkT) (ZgK (ZnR (by kernel_rfl) (ZbD Tryz.underlying26 (by kernel_rfl) ZmW)) (Zl1 (P:=Tryz.prog))))
 exact ZhY (P:=Tryz.prog) (fn:=Tryz.f5) (s:=Rows.dumpTellsSpec) Zgh ZfO hA (by rw [Tryz.params5]) (fun b=>ZiZ b.1 b.2.1) rfl (by kernel_rfl) Tryz.underlying4
   (fun H ds h=>by
     rw [Tryz.params5] at h
     match ds,h with
     | [d0,d1],_=>rfl) H enc W base args ds gs before hval hW
theorem Zf8:Rows.dumpTellsRow.holds Tryz.pinned (OpenSpec.ofChange Rows.dumpTellsSpec):=
 OpenClaim.holds_of_wide 5 Tryz.f5 rfl rfl rfl rfl rfl rfl rfl ⟨rfl,rfl,rfl,rfl,rfl⟩ rfl rfl rfl rfl rfl (by kernel_rfl) Tryz.func5 (by kernel_rfl)
   (of_decide_eq_true (by kernel_rfl)) (by unfold Func.isWrapper;first | (rw [if_pos (by decide +kernel)];kernel_rfl) | (rw [if_neg (by decide +kernel)];exact ⟨rfl,rfl⟩))
   (fun os started H enc _=>Zez os started H enc)
theorem dumpTells_proved:Rows.DumpTellsSaid:=Zf8
end Go.Proofs.YtjhapicamnijnaaGreat
