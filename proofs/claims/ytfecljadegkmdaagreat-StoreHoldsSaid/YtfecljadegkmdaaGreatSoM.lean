/- StoreHolds: from the contract to the given row. No condition. -/
import Derived.Test.YtfecljadegkmdaaGreatJ12
import Derived.Test.YtfecljadegkmdaaGreatRows
namespace Go.Proofs.YtfecljadegkmdaaGreat
open Go Go.Gm Go.ChangeShapes Go.WideShapes Go.ChangeAt Go.RowKit
set_option linter.unusedVariables false
theorem Zf4:ownKnob Tryz.prog.godebug=none:=by kernel_rfl
theorem Zfv:laidOutB Tryz.prog=true:=by kernel_rfl
theorem ZeI:∀ t ∈ Tryz.f5.params.toList,Tryz.prog.readableRec t=true∧t<Tryz.prog.types.size:=by
 have h:(Tryz.f5.params.toList.all fun t=>Tryz.prog.readableRec t && Nat.blt t Tryz.prog.types.size)=true:=by kernel_rfl
 intro t ht
 have:=Yas.1 h t ht
 simp only [Yu,YaE] at this
 exact this
set_option maxRecDepth 100000 in
theorem Zev (os:Os) (started:os.Started) (H:Type) (enc:TypeId×Value→H) :
   ReturnsInHanded {} Tryz.checked os 5 .any (Rows.storeHoldsSpec.pre6 enc Tryz.prog Tryz.f5 Rows.storeHoldsRow.domain false) (Rows.storeHoldsSpec.post enc Tryz.prog Tryz.f5 false true false false):=by
 refine returnsInHanded_of_change (C:=Tryz.checked) Zf4 started kr Tryz.func5
   (ChangeSpec.witness6 (enc:=enc) (C:=Tryz.checked) false ⟨#[],#[.int .i64 0],[]⟩ 8 kr kr kr kr) ?_
 intro W base args ds gs before hval hW _ _
 have hA:=(Zk8 (Zn0 kr (ZmM Tryz.underlying3)) (Zlv (P:=Tryz.prog)))
 exact Zhr (P:=Tryz.prog) (fn:=Tryz.f5) (s:=Rows.storeHoldsSpec) Zfv ZeI hA (by rw [Tryz.params5]) (fun b=>ZhR b.1) rfl kr Tryz.underlying4
   (fun H ds h=>by
     rw [Tryz.params5] at h
     match ds,h with
     | [d0],_=>rfl) H enc W base args ds gs before hval hW
theorem Zg0:(Rows.storeHoldsRow.inPlace == Tryz.prog.inPlace 5)=true:=by kernel_rfl
theorem Zg5:(Rows.storeHoldsRow.unfollowed == Tryz.prog.unfollowed 5)=true:=by kernel_rfl
theorem Zg2:(Rows.storeHoldsRow.recurses == Tryz.prog.recurses 5)=true:=by kernel_rfl
theorem ZgN:(Rows.storeHoldsRow.named == Tryz.prog.varsNamed 5)=true:=by kernel_rfl
theorem Zeh:joinedFacts Tryz.prog 5 Tryz.f5 Rows.storeHoldsSpec Rows.storeHoldsRow=true:=by
 unfold joinedFacts
 rw [Zg0,Zg5,Zg2,ZgN]
 kernel_rfl
theorem Ze1:Rows.storeHoldsRow.holds Tryz.pinned (OpenSpec.ofChange Rows.storeHoldsSpec):=
 OpenClaim.holds_of_wide 5 Tryz.f5 rfl rfl rfl rfl rfl rfl rfl ⟨rfl,rfl,rfl,rfl,rfl⟩ rfl rfl rfl rfl rfl kr Tryz.func5 Zeh
   (YV kr) (by unfold Func.isWrapper;first | (rw [Yd (by decide +kernel)];kernel_rfl) | (rw [Yc (by decide +kernel)];exact ⟨rfl,rfl⟩))
   (fun os started H enc _=>Zev os started H enc)
theorem storeHolds_proved:Rows.StoreHoldsSaid:=Ze1
end Go.Proofs.YtfecljadegkmdaaGreat
