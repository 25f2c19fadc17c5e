/- PatchMakes: from the contract to the given card. No condition. -/
import Derived.Test.YtjhapicamnijnaaGreatDoorJ9
import Derived.Test.YtjhapicamnijnaaGreatDoorLibY
import Derived.Test.YtjhapicamnijnaaGreatDoorTie
import Derived.Test.YtjhapicamnijnaaGreatDoorCards
import Derived.Lay
import Derived.MakeChecks
namespace Go.Proofs.YtjhapicamnijnaaGreatDoor
open Go Go.Gm Go.ChangeShapes Go.WideShapes Go.ChangeAt Go.RowKit Go.WideElems Go.WideMaps
set_option linter.unusedVariables false
theorem Zps:Zem Tryz.prog 53 rOp:=(ZbR (tot:=4) Tryz.underlying53 (by kernel_rfl) (Zaa (k:=1) (by kernel_rfl) (by kernel_rfl) (Zhk Tryz.underlying4) (Zaa (k:=1) (by kernel_rfl) (by kernel_rfl) (Zb5 Tryz.underlying3) (Zaa (k:=1) (by kernel_rfl) (by kernel_rfl) (Zb5 Tryz.underlying3) (Zaa (k:=1) (by kernel_rfl) (by kernel_rfl) (Zb5 Tryz.underlying3) Zdl))))).map (fun p=>(⟨p.1,p.2.1,p.2.2.1,p.2.2.2.1⟩:OpD)) (fun _=>rfl)
theorem ZpA:Zem Tryz.prog 38 rTx:=(ZbR (tot:=3) Tryz.underlying38 (by kernel_rfl) (Zaa (k:=1) (by kernel_rfl) (by kernel_rfl) (Zb5 Tryz.underlying3) (Zaa (k:=1) (by kernel_rfl) (by kernel_rfl) (Zhk Tryz.underlying4) (Zaa (k:=1) (by kernel_rfl) (by kernel_rfl) (Zcq Tryz.underlying36 (by kernel_rfl) Zps) Zdl)))).map (fun p=>(⟨p.1,p.2.1,p.2.2.1⟩:TxD)) (fun _=>rfl)
theorem Znh:Zem Tryz.prog 41 Zx:=(ZbR (tot:=2) Tryz.underlying41 (by kernel_rfl) (Zaa (k:=1) (by kernel_rfl) (by kernel_rfl) (Zb5 Tryz.underlying3) (Zaa (k:=1) (by kernel_rfl) (by kernel_rfl) (Zcq (R:=rInt) Tryz.underlying39 (by kernel_rfl) (Zb5 Tryz.underlying3)) Zdl))).map (fun p=>(⟨p.1,p.2.1⟩:OrdD)) (fun _=>rfl)
theorem Zhh:Zem Tryz.prog 25 Zn:=(ZbR (tot:=2) Tryz.underlying25 (by kernel_rfl) (Zaa (k:=1) (by kernel_rfl) (by kernel_rfl) (Zcq Tryz.underlying22 (by kernel_rfl) ZpA) (Zaa (k:=1) (by kernel_rfl) (by kernel_rfl) (Zcq Tryz.underlying23 (by kernel_rfl) Znh) Zdl))).map (fun p=>(⟨p.1,p.2.1⟩:Zj)) (fun _=>rfl)
def ZmF : List (String × DataW Unit) := [("unicode/utf8.acceptRanges", Rows.laid_unicode_utf8_acceptRanges), ("unicode/utf8.first", Rows.laid_unicode_utf8_first)]
theorem ZpW (os:Os) (args:Array Value):laidMetH Tryz.prog ZmF ((World.laidAll Tryz.prog os ZmF).forCall (fun _ _=>0) ⟨#[],args,[]⟩).memory:=by
 rw [MakeChecks.laidMetH_plain _ _ _ (by kernel_rfl)]
 exact laidMet_laidAll _ (by kernel_rfl) (by kernel_rfl)
theorem ZgP:ownKnob Tryz.prog.godebug=none:=by kernel_rfl
theorem Zgt:laidOutB Tryz.prog=true:=by kernel_rfl
theorem Zfc:∀ t ∈ Tryz.f4.params.toList,Tryz.prog.readableRec t=true∧t<Tryz.prog.types.size:=by
 have h:(Tryz.f4.params.toList.all fun t=>Tryz.prog.readableRec t && Nat.blt t Tryz.prog.types.size)=true:=by kernel_rfl
 intro t ht
 have:=List.all_eq_true.1 h t ht
 simp only [Bool.and_eq_true,Nat.blt_eq] at this
 exact this
set_option maxRecDepth 100000 in
theorem ZeF (os:Os) (started:os.Started) (H:Type) (enc:TypeId×Value→H) :
   ReturnsInHanded {} Tryz.checked os 4 .any (fun w args=>(Rows.patchMakesSpec.pre enc Tryz.prog Tryz.f4 [] false w args∧laidMetH Tryz.prog ZmF w)∧sizedMet enc Tryz.prog Tryz.f4 (OpenSpec.ofChange Rows.patchMakesSpec) false w args)
     (Rows.patchMakesSpec.post enc Tryz.prog Tryz.f4 false true false false):=by
 refine returnsInHanded_of_change_and (C:=Tryz.checked) (X:=fun w _=>laidMetH Tryz.prog ZmF w) (fun _ _ _ hh h=>h.of_heap hh) ZgP started (by kernel_rfl) Tryz.func4
   (ChangeSpec.witness_shaped (enc:=enc) (C:=Tryz.checked) (os:=os) (X:=fun w _=>laidMetH Tryz.prog ZmF w) false (World.laidAll Tryz.prog os ZmF) #[.agg #[.slice none 0 0,.slice none 0 0],.agg #[.slice none 0 0,.slice none 0 0]] 8 (World.laidAll_os _ _ _) (World.shaped_of_ZipB (by kernel_rfl) (by kernel_rfl)) (by kernel_rfl) (by kernel_rfl) (by kernel_rfl) (ZpW os _)) ?_
 intro W base args ds gs before hval hW _ _ hL _
 have hA:=(Zhu (Zlm Tryz.underlying25 Zhh) (Zhu (Zlm Tryz.underlying25 Zhh) (Zoe (P:=Tryz.prog))))
 exact ZiX (P:=Tryz.prog) (fn:=Tryz.f4) (s:=Rows.patchMakesSpec) Zgt Zfc hA (by rw [Tryz.params4]) (fun b=>Zix b.1 b.2.1) rfl (by kernel_rfl) Tryz.underlying4
   (fun H ds h=>by
     rw [Tryz.params4] at h
     match ds,h with
     | [d0,d1],_=>rfl) H enc W base args ds gs before hval hW
theorem Zga:Rows.PatchMakesSaid:=
 OpenClaim.holds_of_wide 4 Tryz.f4 rfl rfl rfl rfl rfl rfl rfl ⟨rfl,rfl,rfl,rfl,rfl⟩ rfl rfl rfl rfl rfl (by kernel_rfl) Tryz.func4 (by kernel_rfl)
   (of_decide_eq_true (by kernel_rfl)) (by unfold Func.isWrapper;first | (rw [if_pos (by decide +kernel)];kernel_rfl) | (rw [if_neg (by decide +kernel)];exact ⟨rfl,rfl⟩))
   (fun os started H enc _=>ZeF os started H enc)
theorem patchMakes_proved:Rows.PatchMakesCardSaid:=
  Claim7.holds_tied_plain_at .later [] [.data, .pinned] true (true, "09dd2bfb7b70cb662472f8211ca89f7ea31acda316ffe5831ced32dab29773d9") true
    Zga (fun _ h=>by cases h) (by kernel_rfl) (fun _ h=>by cases h) patchMakes_row_tie rfl ⟨rfl,rfl⟩ (by kernel_rfl) rfl
    (fun f fn hf hfn=>by
      obtain rfl : f = 4 := Option.some.inj ((show Tryz.prog.funcNamed "tenter/tenterlaw48.PatchMakes" = some 4 by kernel_rfl).symm.trans hf) |>.symm
      obtain rfl:fn=Tryz.f4:=(Option.some.inj (Tryz.func4.symm.trans hfn)).symm
      exact ⟨by kernel_rfl,fun j t ht=>by
        rw [Tryz.params4] at ht
        have hm:t ∈ [25,25]:=by simpa using Array.mem_of_getElem? ht
        have hall:([25,25].all fun u=>!Tryz.prog.wantsStandIn u)=true:=by kernel_rfl
        exact (show Tryz.prog.wantsStandIn t=false by simpa using List.all_eq_true.1 hall t hm)⟩)
    (by kernel_rfl)
end Go.Proofs.YtjhapicamnijnaaGreatDoor
