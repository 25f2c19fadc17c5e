/- DumpNoLonger: from the contract to the given row. No condition. -/
import Derived.Test.YtjhapicamnijnaaGreatJ9
import Derived.Test.YtjhapicamnijnaaGreatLibW
import Derived.Test.YtjhapicamnijnaaGreatRows
namespace Go.Proofs.YtjhapicamnijnaaGreat
open Go Go.Gm Go.ChangeShapes Go.WideShapes Go.ChangeAt Go.RowKit
set_option linter.unusedVariables false
theorem Zho:Zcd Tryz.prog 59 rOp:=(Zaq (tot:=4) Tryz.underlying59 (by kernel_rfl) (ZF (k:=1) (by kernel_rfl) (by kernel_rfl) (ZcY Tryz.underlying4) (ZF (k:=1) (by kernel_rfl) (by kernel_rfl) (Zax Tryz.underlying3) (ZF (k:=1) (by kernel_rfl) (by kernel_rfl) (Zax Tryz.underlying3) (ZF (k:=1) (by kernel_rfl) (by kernel_rfl) (Zax Tryz.underlying3) ZaV))))).map (fun p=>(⟨p.1,p.2.1,p.2.2.1,p.2.2.2.1⟩:OpD)) (fun _=>rfl)
theorem ZhR:Zcd Tryz.prog 40 rTx:=(Zaq (tot:=3) Tryz.underlying40 (by kernel_rfl) (ZF (k:=1) (by kernel_rfl) (by kernel_rfl) (Zax Tryz.underlying3) (ZF (k:=1) (by kernel_rfl) (by kernel_rfl) (ZcY Tryz.underlying4) (ZF (k:=1) (by kernel_rfl) (by kernel_rfl) (ZaE Tryz.underlying38 (by kernel_rfl) Zho) ZaV)))).map (fun p=>(⟨p.1,p.2.1,p.2.2.1⟩:TxD)) (fun _=>rfl)
theorem Zfe:Zcd Tryz.prog 43 Zs:=(Zaq (tot:=2) Tryz.underlying43 (by kernel_rfl) (ZF (k:=1) (by kernel_rfl) (by kernel_rfl) (Zax Tryz.underlying3) (ZF (k:=1) (by kernel_rfl) (by kernel_rfl) (ZaE Tryz.underlying41 (by kernel_rfl) (Zax Tryz.underlying3)) ZaV))).map (fun p=>(⟨p.1,p.2.1⟩:OrdD)) (fun _=>rfl)
theorem Zeu:Zcd Tryz.prog 25 Zk:=(Zaq (tot:=2) Tryz.underlying25 (by kernel_rfl) (ZF (k:=1) (by kernel_rfl) (by kernel_rfl) (ZaE Tryz.underlying22 (by kernel_rfl) ZhR) (ZF (k:=1) (by kernel_rfl) (by kernel_rfl) (ZaE Tryz.underlying23 (by kernel_rfl) Zfe) ZaV))).map (fun p=>(⟨p.1,p.2.1⟩:HistD)) (fun _=>rfl)
theorem ZeU:ownKnob Tryz.prog.godebug=none:=by kernel_rfl
theorem Zei:laidOutB Tryz.prog=true:=by kernel_rfl
theorem ZdR:∀ t ∈ Tryz.f6.params.toList,Tryz.prog.readableRec t=true∧t<Tryz.prog.types.size:=by
 have h:(Tryz.f6.params.toList.all fun t=>Tryz.prog.readableRec t && Nat.blt t Tryz.prog.types.size)=true:=by kernel_rfl
 intro t ht
 have:=List.all_eq_true.1 h t ht
 simp only [Bool.and_eq_true,Nat.blt_eq] at this
 exact this
set_option maxRecDepth 100000 in
theorem Zdy (os:Os) (started:os.Started) (H:Type) (enc:TypeId×Value→H) :
   ReturnsInHanded {} Tryz.checked os 6 .any (Rows.dumpNoLongerSpec.pre6 enc Tryz.prog Tryz.f6 Rows.dumpNoLongerRow.domain false) (Rows.dumpNoLongerSpec.post enc Tryz.prog Tryz.f6 false true false false):=by
 refine returnsInHanded_of_change (C:=Tryz.checked) ZeU started (by kernel_rfl) Tryz.func6
   (ChangeSpec.witness6 (enc:=enc) (C:=Tryz.checked) false ⟨#[],#[.agg #[.slice none 0 0,.slice none 0 0]],[]⟩ 8 (by kernel_rfl) (by kernel_rfl) (by kernel_rfl) (by kernel_rfl)) ?_
 intro W base args ds gs before hval hW _ _
 have hA:=(Zg8 (Zk7 Tryz.underlying25 Zeu) (Zin (P:=Tryz.prog)))
 exact ZeL (P:=Tryz.prog) (fn:=Tryz.f6) (s:=Rows.dumpNoLongerSpec) Zei ZdR hA (by rw [Tryz.params6]) (fun b=>Zgt b.1) rfl (by kernel_rfl) Tryz.underlying4
   (fun H ds h=>by
     rw [Tryz.params6] at h
     match ds,h with
     | [d0],_=>rfl) H enc W base args ds gs before hval hW
theorem Zen:Rows.dumpNoLongerRow.holds Tryz.pinned (OpenSpec.ofChange Rows.dumpNoLongerSpec):=
 OpenClaim.holds_of_wide 6 Tryz.f6 rfl rfl rfl rfl rfl rfl rfl ⟨rfl,rfl,rfl,rfl,rfl⟩ rfl rfl rfl rfl rfl (by kernel_rfl) Tryz.func6 (by kernel_rfl)
   (of_decide_eq_true (by kernel_rfl)) (by unfold Func.isWrapper;first | (rw [if_pos (by decide +kernel)];kernel_rfl) | (rw [if_neg (by decide +kernel)];exact ⟨rfl,rfl⟩))
   (fun os started H enc _=>Zdy os started H enc)
theorem dumpNoLonger_proved:Rows.DumpNoLongerSaid:=Zen
end Go.Proofs.YtjhapicamnijnaaGreat
