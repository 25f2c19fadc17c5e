/- TopRoundAlike: from the contract to the given card. No condition. -/
import Derived.Test.YtlaaiihdhockcaaGreatDoorJ8
import Derived.Test.YtlaaiihdhockcaaGreatDoorTie
import Derived.Test.YtlaaiihdhockcaaGreatDoorCards
import Derived.Lay
import Derived.MakeChecks
namespace Go.Proofs.YtlaaiihdhockcaaGreatDoor
open Go Go.Gm Go.ChangeShapes Go.WideShapes Go.ChangeAt Go.RowKit Go.WideElems Go.WideMaps
set_option linter.unusedVariables false
theorem ZeJ:ZeD Tryz.prog 31 ZdZ:=(ZgR (tot:=2) Tryz.underlying31 kr (Zev (k:=1) kr kr (Zeo Tryz.underlying3) (Zev (k:=1) kr kr (Zeo Tryz.underlying3) Zje))).map (fun p=>(⟨p.1,p.2.1⟩:PairD)) (fun _=>rfl)
def Zlf : List (String × DataW Unit) := [("math/bits.deBruijn64tab", Rows.laid_math_bits_deBruijn64tab)]
theorem ZpL : Tryz.prog.globalNamed "math/bits.deBruijn64tab" = some 0 := by kernel_rfl
theorem ZpS:(Tryz.prog.globals[0]?).map (·.type)=some 155:=by kernel_rfl
theorem Zmq (os:Os) (args:Array Value):laidMetH Tryz.prog Zlf ((World.doorLaid Tryz.prog 19 os).forCall (fun _ _=>0) ⟨#[],args,[]⟩).memory:=
 laidMetH_of_parts3 (fuel:=8) (laidMet_of_run' 8 kr kr) kr kr
theorem Zod {W:World} (h:laidMetH Tryz.prog Zlf W):(PV.ref (ZhH.map fun c=>PV.int .u8 c)).p (.pointer (some ⟨0,0,none⟩)) W noY:=by
 rw [MakeChecks.laidMetH_plain _ _ _ kr] at h
 obtain ⟨ps,⟨g0,t0,cs0,f0,p0,q0,hg0,ht0,hv0,hd0,_,_⟩,_⟩:=h
 obtain rfl:=Ybc (ZpL.symm.trans hg0)
 obtain rfl:=Ybc (ZpS.symm.trans ht0)
 obtain ⟨h1,h2⟩:=Zht (tab:=ZhH) Tryz.underlying155 Tryz.underlying5 kr kr rfl hd0
 exact Zln ZpL hv0 h1 h2 (by decide)
theorem ZcG:ownKnob Tryz.prog.godebug=none:=by kernel_rfl
theorem Zca:laidOutB Tryz.prog=true:=by kernel_rfl
theorem Zb3:∀ t ∈ Tryz.f3.params.toList,Tryz.prog.readableRec t=true∧t<Tryz.prog.types.size:=by
 have h:(Tryz.f3.params.toList.all fun t=>Tryz.prog.readableRec t && Nat.blt t Tryz.prog.types.size)=true:=by kernel_rfl
 intro t ht
 have:=Yay.1 h t ht
 simp only [YB,Yam] at this
 exact this
set_option maxRecDepth 100000 in
theorem ZbR (os:Os) (started:os.Started) (H:Type) (enc:TypeId×Value→H) :
   ReturnsInHanded {} Tryz.checked os 3 .any (fun w args=>(Rows.topRoundAlikeSpec.pre enc Tryz.prog Tryz.f3 [] false w args∧laidMetH Tryz.prog Zlf w)∧sizedMet enc Tryz.prog Tryz.f3 (OpenSpec.ofChange Rows.topRoundAlikeSpec) false w args)
     (Rows.topRoundAlikeSpec.post enc Tryz.prog Tryz.f3 false true false false):=by
 refine returnsInHanded_of_change_and (C:=Tryz.checked) (X:=fun w _=>laidMetH Tryz.prog Zlf w) (fun _ _ _ hh h=>h.of_heap hh) ZcG started kr Tryz.func3
   (ChangeSpec.witness_shaped (enc:=enc) (C:=Tryz.checked) (os:=os) (X:=fun w _=>laidMetH Tryz.prog Zlf w) false (World.doorLaid Tryz.prog 19 os) #[.int .i64 0,.slice none 0 0,.slice none 0 0] 8 rfl (World.shaped_of_RefB kr kr) kr kr kr (Zmq os _)) ?_
 intro W base args ds gs before hval hW _ _ hL _
 have hA:=(ZcU (Ze9 kr (Zeo Tryz.underlying3)) (ZcU (Ze9 kr (Zd1 Tryz.underlying22 kr ZeJ)) (ZcU (Ze9 kr (Zd1 Tryz.underlying22 kr ZeJ)) (Zlg (P:=Tryz.prog)))))
 exact ZeI (P:=Tryz.prog) (fn:=Tryz.f3) (s:=Rows.topRoundAlikeSpec) Zca Zb3 hA (by rw [Tryz.params3]) (fun b=>Zgk b.1 b.2.1 b.2.2.1) rfl kr Tryz.underlying4
   (fun H ds h=>by
     rw [Tryz.params3] at h
     match ds,h with
     | [d0,d1,d2],_=>rfl) H enc W base args ds gs before (Zod hL) hval hW
theorem Zcm:Rows.TopRoundAlikeSaid:=
 OpenClaim.holds_of_wide 3 Tryz.f3 rfl rfl rfl rfl rfl rfl rfl ⟨rfl,rfl,rfl,rfl,rfl⟩ rfl rfl rfl rfl rfl kr Tryz.func3 kr
   (Yr kr) (by unfold Func.isWrapper;first | (rw [Yf (by decide +kernel)];kernel_rfl) | (rw [Ye (by decide +kernel)];exact ⟨rfl,rfl⟩))
   (fun os started H enc _=>ZbR os started H enc)
theorem topRoundAlike_proved:Rows.TopRoundAlikeCardSaid:=
  Claim7.holds_tied_plain_at .later [] [.data] true (true, "50119bc0044e86f9efaa9a7be98c51cdd4343445230dceeaf8832cfd712ccbe7") false
    Zcm (fun _ h=>by cases h) kr (fun _ h=>by cases h) topRoundAlike_row_tie rfl ⟨rfl,rfl⟩ kr rfl
    (fun f fn hf hfn=>by
      obtain rfl : f = 3 := Ybc ((show Tryz.prog.funcNamed "tenter/tentertop.TopRoundAlike" = some 3 by kernel_rfl).symm.trans hf) |>.symm
      obtain rfl:fn=Tryz.f3:=(Ybc (Tryz.func3.symm.trans hfn)).symm
      exact ⟨by kernel_rfl,fun j t ht=>by
        rw [Tryz.params3] at ht
        have hm:t ∈ [3,22,22]:=by simpa using Array.mem_of_getElem? ht
        have hall:([3,22,22].all fun u=>!Tryz.prog.wantsStandIn u)=true:=by kernel_rfl
        exact (show Tryz.prog.wantsStandIn t=false by simpa using Yay.1 hall t hm)⟩)
    kr
end Go.Proofs.YtlaaiihdhockcaaGreatDoor
