/- TopOrdered: from the contract to the given card. No condition. -/
import Derived.Test.YthfoojdlcjfmcaaGreatDoorJ6
import Derived.Test.YthfoojdlcjfmcaaGreatDoorTie
import Derived.Test.YthfoojdlcjfmcaaGreatDoorCards
import Derived.Lay
import Derived.MakeChecks
namespace Go.Proofs.YthfoojdlcjfmcaaGreatDoor
open Go Go.Gm Go.ChangeShapes Go.WideShapes Go.ChangeAt Go.RowKit Go.WideElems Go.WideMaps
set_option linter.unusedVariables false
theorem Zl8:ZcH Tryz.prog 54 rOp:=(Zbc (tot:=4) Tryz.underlying54 kr (ZW (k:=1) kr kr (Zfn Tryz.underlying4) (ZW (k:=1) kr kr (ZaK Tryz.underlying3) (ZW (k:=1) kr kr (ZaK Tryz.underlying3) (ZW (k:=1) kr kr (ZaK Tryz.underlying3) Zb9))))).map (fun p=>(⟨p.1,p.2.1,p.2.2.1,p.2.2.2.1⟩:OpD)) (fun _=>rfl)
theorem ZmP:ZcH Tryz.prog 37 rTx:=(Zbc (tot:=3) Tryz.underlying37 kr (ZW (k:=1) kr kr (ZaK Tryz.underlying3) (ZW (k:=1) kr kr (Zfn Tryz.underlying4) (ZW (k:=1) kr kr (Za3 Tryz.underlying35 kr Zl8) Zb9)))).map (fun p=>(⟨p.1,p.2.1,p.2.2.1⟩:TxD)) (fun _=>rfl)
theorem ZkE:ZcH Tryz.prog 34 ZA:=(Zbc (tot:=2) Tryz.underlying34 kr (ZW (k:=1) kr kr (ZaK Tryz.underlying3) (ZW (k:=1) kr kr (Za3 Tryz.underlying26 kr (ZaK Tryz.underlying3)) Zb9))).map (fun p=>(⟨p.1,p.2.1⟩:OrdD)) (fun _=>rfl)
theorem Zjx:ZcH Tryz.prog 25 Zp:=(Zbc (tot:=2) Tryz.underlying25 kr (ZW (k:=1) kr kr (Za3 Tryz.underlying22 kr ZmP) (ZW (k:=1) kr kr (Za3 Tryz.underlying23 kr ZkE) Zb9))).map (fun p=>(⟨p.1,p.2.1⟩:Zn)) (fun _=>rfl)
def Zkx : List (String × DataW Unit) := [("math/bits.deBruijn64tab", Rows.laid_math_bits_deBruijn64tab)]
theorem ZpV : Tryz.prog.globalNamed "math/bits.deBruijn64tab" = some 0 := by kernel_rfl
theorem Zqc:(Tryz.prog.globals[0]?).map (·.type)=some 333:=by kernel_rfl
theorem Zm0 (os:Os) (args:Array Value):laidMetH Tryz.prog Zkx ((World.doorLaid Tryz.prog 19 os).forCall (fun _ _=>0) ⟨#[],args,[]⟩).memory:=
 laidMetH_of_parts3 (fuel:=8) (laidMet_of_run' 8 kr kr) kr kr
theorem Zos {W:World} (h:laidMetH Tryz.prog Zkx W):(PV.ref (ZnE.map fun c=>PV.int .u8 c)).p (.pointer (some ⟨0,0,none⟩)) W noY:=by
 rw [MakeChecks.laidMetH_plain _ _ _ kr] at h
 obtain ⟨ps,⟨g0,t0,cs0,f0,p0,q0,hg0,ht0,hv0,hd0,_,_⟩,_⟩:=h
 obtain rfl:=Ybc (ZpV.symm.trans hg0)
 obtain rfl:=Ybc (Zqc.symm.trans ht0)
 obtain ⟨h1,h2⟩:=ZhE (tab:=ZnE) Tryz.underlying333 Tryz.underlying5 kr kr rfl hd0
 exact Zk4 ZpV hv0 h1 h2 (by decide)
theorem Ze4:ownKnob Tryz.prog.godebug=none:=by kernel_rfl
theorem Zeh:laidOutB Tryz.prog=true:=by kernel_rfl
theorem ZdE:∀ t ∈ Tryz.f3.params.toList,Tryz.prog.readableRec t=true∧t<Tryz.prog.types.size:=by
 have h:(Tryz.f3.params.toList.all fun t=>Tryz.prog.readableRec t && Nat.blt t Tryz.prog.types.size)=true:=by kernel_rfl
 intro t ht
 have:=YaR.1 h t ht
 simp only [Yw,Yaq] at this
 exact this
set_option maxRecDepth 100000 in
theorem Zdn (os:Os) (started:os.Started) (H:Type) (enc:TypeId×Value→H) :
   ReturnsInHanded {} Tryz.checked os 3 .any (fun w args=>(Rows.topOrderedSpec.pre enc Tryz.prog Tryz.f3 [] false w args∧laidMetH Tryz.prog Zkx w)∧sizedMet enc Tryz.prog Tryz.f3 (OpenSpec.ofChange Rows.topOrderedSpec) false w args)
     (Rows.topOrderedSpec.post enc Tryz.prog Tryz.f3 false true false false):=by
 refine returnsInHanded_of_change_and (C:=Tryz.checked) (X:=fun w _=>laidMetH Tryz.prog Zkx w) (fun _ _ _ hh h=>h.of_heap hh) Ze4 started kr Tryz.func3
   (ChangeSpec.witness_shaped (enc:=enc) (C:=Tryz.checked) (os:=os) (X:=fun w _=>laidMetH Tryz.prog Zkx w) false (World.doorLaid Tryz.prog 19 os) #[.agg #[.slice none 0 0,.slice none 0 0],.int .i64 0,.slice none 0 0] 8 rfl (World.shaped_of_RefB kr kr) kr kr kr (Zm0 os _)) ?_
 intro W base args ds gs before hval hW _ _ hL _
 have hA:=(Zdf (Zl7 Tryz.underlying25 Zjx) (Zdf (ZiH kr (ZaK Tryz.underlying3)) (Zdf (ZiH kr (Za3 Tryz.underlying26 kr (ZaK Tryz.underlying3))) (Zlt (P:=Tryz.prog)))))
 exact Ze1 (P:=Tryz.prog) (fn:=Tryz.f3) (s:=Rows.topOrderedSpec) Zeh ZdE hA (by rw [Tryz.params3]) (fun b=>Zhi b.1 b.2.1 b.2.2.1) rfl kr Tryz.underlying4
   (fun H ds h=>by
     rw [Tryz.params3] at h
     match ds,h with
     | [d0,d1,d2],_=>rfl) H enc W base args ds gs before (Zos hL) hval hW
theorem Zei:Rows.TopOrderedSaid:=
 OpenClaim.holds_of_wide 3 Tryz.f3 rfl rfl rfl rfl rfl rfl rfl ⟨rfl,rfl,rfl,rfl,rfl⟩ rfl rfl rfl rfl rfl kr Tryz.func3 kr
   (Yak kr) (by unfold Func.isWrapper;first | (rw [Ye (by decide +kernel)];kernel_rfl) | (rw [Yb (by decide +kernel)];exact ⟨rfl,rfl⟩))
   (fun os started H enc _=>Zdn os started H enc)
theorem topOrdered_proved:Rows.TopOrderedCardSaid:=
  Claim7.holds_tied_plain_at .later [] [.data] true (true, "08d0d067e2b1a3ee117c16dc9e5730f19cf0d9ba74e8735f54db44af160b09ee") false
    Zei (fun _ h=>by cases h) kr (fun _ h=>by cases h) topOrdered_row_tie rfl ⟨rfl,rfl⟩ kr rfl
    (fun f fn hf hfn=>by
      obtain rfl : f = 3 := Ybc ((show Tryz.prog.funcNamed "tenter/tentertop.TopOrdered" = some 3 by kernel_rfl).symm.trans hf) |>.symm
      obtain rfl:fn=Tryz.f3:=(Ybc (Tryz.func3.symm.trans hfn)).symm
      exact ⟨by kernel_rfl,fun j t ht=>by
        rw [Tryz.params3] at ht
        have hm:t ∈ [25,3,26]:=by simpa using Array.mem_of_getElem? ht
        have hall:([25,3,26].all fun u=>!Tryz.prog.wantsStandIn u)=true:=by kernel_rfl
        exact (show Tryz.prog.wantsStandIn t=false by simpa using YaR.1 hall t hm)⟩)
    kr
end Go.Proofs.YthfoojdlcjfmcaaGreatDoor
