/- PatchTells: from the contract to the given row. No condition. -/
import Derived.Test.YtjhapicamnijnaaGreatJ9
import Derived.Test.YtjhapicamnijnaaGreatLibW
import Derived.Test.YtjhapicamnijnaaGreatRows
namespace Go.Proofs.YtjhapicamnijnaaGreat
open Go Go.Gm Go.ChangeShapes Go.WideShapes Go.ChangeAt Go.RowKit
set_option linter.unusedVariables false
theorem ZlK:ZcP Tryz.prog 59 rOp:=(Za0 (tot:=4) Tryz.underlying59 (by kernel_rfl) (ZK (k:=1) (by kernel_rfl) (by kernel_rfl) (Zf1 Tryz.underlying4) (ZK (k:=1) (by kernel_rfl) (by kernel_rfl) (Zay Tryz.underlying3) (ZK (k:=1) (by kernel_rfl) (by kernel_rfl) (Zay Tryz.underlying3) (ZK (k:=1) (by kernel_rfl) (by kernel_rfl) (Zay Tryz.underlying3) ZbQ))))).map (fun p=>(⟨p.1,p.2.1,p.2.2.1,p.2.2.2.1⟩:OpD)) (fun _=>rfl)
theorem Zjg:ZcP Tryz.prog 40 rTx:=(Za0 (tot:=3) Tryz.underlying40 (by kernel_rfl) (ZK (k:=1) (by kernel_rfl) (by kernel_rfl) (Zay Tryz.underlying3) (ZK (k:=1) (by kernel_rfl) (by kernel_rfl) (Zf1 Tryz.underlying4) (ZK (k:=1) (by kernel_rfl) (by kernel_rfl) (Zbk Tryz.underlying38 (by kernel_rfl) ZlK) ZbQ)))).map (fun p=>(⟨p.1,p.2.1,p.2.2.1⟩:TxD)) (fun _=>rfl)
theorem Zhj:ZcP Tryz.prog 43 Zs:=(Za0 (tot:=2) Tryz.underlying43 (by kernel_rfl) (ZK (k:=1) (by kernel_rfl) (by kernel_rfl) (Zay Tryz.underlying3) (ZK (k:=1) (by kernel_rfl) (by kernel_rfl) (Zbk Tryz.underlying41 (by kernel_rfl) (Zay Tryz.underlying3)) ZbQ))).map (fun p=>(⟨p.1,p.2.1⟩:OrdD)) (fun _=>rfl)
theorem Zf6:ZcP Tryz.prog 25 Zj:=(Za0 (tot:=2) Tryz.underlying25 (by kernel_rfl) (ZK (k:=1) (by kernel_rfl) (by kernel_rfl) (Zbk Tryz.underlying22 (by kernel_rfl) Zjg) (ZK (k:=1) (by kernel_rfl) (by kernel_rfl) (Zbk Tryz.underlying23 (by kernel_rfl) Zhj) ZbQ))).map (fun p=>(⟨p.1,p.2.1⟩:Zn)) (fun _=>rfl)
theorem Zk9:ZcP Tryz.prog 45 rCmd:=(Za0 (tot:=10) Tryz.underlying45 (by kernel_rfl) (ZK (k:=1) (by kernel_rfl) (by kernel_rfl) (Zay Tryz.underlying3) (ZK (k:=3) (by kernel_rfl) (by kernel_rfl) Zjg (ZK (k:=2) (by kernel_rfl) (by kernel_rfl) Zhj (ZK (k:=1) (by kernel_rfl) (by kernel_rfl) (Zay Tryz.underlying3) (ZK (k:=1) (by kernel_rfl) (by kernel_rfl) (Zay Tryz.underlying3) (ZK (k:=1) (by kernel_rfl) (by kernel_rfl) (Zay Tryz.underlying3) (ZK (k:=1) (by kernel_rfl) (by kernel_rfl) (Zay Tryz.underlying3) ZbQ)))))))).map (fun p=>(⟨p.1,p.2.1,p.2.2.1,p.2.2.2.1,p.2.2.2.2.1,p.2.2.2.2.2.1,p.2.2.2.2.2.2.1⟩:CmdD)) (fun _=>rfl)
theorem ZfA:ownKnob Tryz.prog.godebug=none:=by kernel_rfl
theorem Zfy:laidOutB Tryz.prog=true:=by kernel_rfl
theorem Zed:∀ t ∈ Tryz.f3.params.toList,Tryz.prog.readableRec t=true∧t<Tryz.prog.types.size:=by
 have h:(Tryz.f3.params.toList.all fun t=>Tryz.prog.readableRec t && Nat.blt t Tryz.prog.types.size)=true:=by kernel_rfl
 intro t ht
 have:=List.all_eq_true.1 h t ht
 simp only [Bool.and_eq_true,Nat.blt_eq] at this
 exact this
set_option maxRecDepth 100000 in
theorem Zd0 (os:Os) (started:os.Started) (H:Type) (enc:TypeId×Value→H) :
   ReturnsInHanded {} Tryz.checked os 3 .any (Rows.patchTellsSpec.pre6 enc Tryz.prog Tryz.f3 Rows.patchTellsRow.domain false) (Rows.patchTellsSpec.post enc Tryz.prog Tryz.f3 false true false false):=by
 refine returnsInHanded_of_change (C:=Tryz.checked) ZfA started (by kernel_rfl) Tryz.func3
   (ChangeSpec.witness6 (enc:=enc) (C:=Tryz.checked) false ⟨#[],#[.agg #[.slice none 0 0,.slice none 0 0],.agg #[.slice none 0 0,.slice none 0 0],.slice none 0 0],[]⟩ 8 (by kernel_rfl) (by kernel_rfl) (by kernel_rfl) (by kernel_rfl)) ?_
 intro W base args ds gs before hval hW _ _
 have hA:=(ZdM (Zjp Tryz.underlying25 Zf6) (ZdM (Zjp Tryz.underlying25 Zf6) (ZdM (Zl3 (by kernel_rfl) (Zbk Tryz.underlying26 (by kernel_rfl) Zk9)) (Zkf (P:=Tryz.prog)))))
 exact ZhF (P:=Tryz.prog) (fn:=Tryz.f3) (s:=Rows.patchTellsSpec) Zfy Zed hA (by rw [Tryz.params3]) (fun b=>Zhd b.1 b.2.1 b.2.2.1) rfl (by kernel_rfl) Tryz.underlying4
   (fun H ds h=>by
     rw [Tryz.params3] at h
     match ds,h with
     | [d0,d1,d2],_=>rfl) H enc W base args ds gs before hval hW
theorem Zfg:Rows.patchTellsRow.holds Tryz.pinned (OpenSpec.ofChange Rows.patchTellsSpec):=
 OpenClaim.holds_of_wide 3 Tryz.f3 rfl rfl rfl rfl rfl rfl rfl ⟨rfl,rfl,rfl,rfl,rfl⟩ rfl rfl rfl rfl rfl (by kernel_rfl) Tryz.func3 (by kernel_rfl)
   (of_decide_eq_true (by kernel_rfl)) (by unfold Func.isWrapper;first | (rw [if_pos (by decide +kernel)];kernel_rfl) | (rw [if_neg (by decide +kernel)];exact ⟨rfl,rfl⟩))
   (fun os started H enc _=>Zd0 os started H enc)
theorem patchTells_proved:Rows.PatchTellsSaid:=Zfg
end Go.Proofs.YtjhapicamnijnaaGreat
