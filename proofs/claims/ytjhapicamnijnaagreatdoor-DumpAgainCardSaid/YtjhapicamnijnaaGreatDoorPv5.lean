/- DumpAgain: from the contract to the given card. No condition. -/
import Derived.Test.YtjhapicamnijnaaGreatDoorJ9
import Derived.Test.YtjhapicamnijnaaGreatDoorLibY
import Derived.Test.YtjhapicamnijnaaGreatDoorTie
import Derived.Test.YtjhapicamnijnaaGreatDoorCards
import Derived.Lay
import Derived.MakeChecks
namespace Go.Proofs.YtjhapicamnijnaaGreatDoor
open Go Go.Gm Go.ChangeShapes Go.WideShapes Go.ChangeAt Go.RowKit Go.WideElems Go.WideMaps
set_option linter.unusedVariables false
theorem ZpS:ZdM Tryz.prog 53 rOp:=(ZbE (tot:=4) Tryz.underlying53 (by kernel_rfl) (Z4 (k:=1) (by kernel_rfl) (by kernel_rfl) (Zg1 Tryz.underlying4) (Z4 (k:=1) (by kernel_rfl) (by kernel_rfl) (ZbZ Tryz.underlying3) (Z4 (k:=1) (by kernel_rfl) (by kernel_rfl) (ZbZ Tryz.underlying3) (Z4 (k:=1) (by kernel_rfl) (by kernel_rfl) (ZbZ Tryz.underlying3) ZcX))))).map (fun p=>(⟨p.1,p.2.1,p.2.2.1,p.2.2.2.1⟩:OpD)) (fun _=>rfl)
theorem Zpw:ZdM Tryz.prog 38 rTx:=(ZbE (tot:=3) Tryz.underlying38 (by kernel_rfl) (Z4 (k:=1) (by kernel_rfl) (by kernel_rfl) (ZbZ Tryz.underlying3) (Z4 (k:=1) (by kernel_rfl) (by kernel_rfl) (Zg1 Tryz.underlying4) (Z4 (k:=1) (by kernel_rfl) (by kernel_rfl) (Zcg Tryz.underlying36 (by kernel_rfl) ZpS) ZcX)))).map (fun p=>(⟨p.1,p.2.1,p.2.2.1⟩:TxD)) (fun _=>rfl)
theorem Zn7:ZdM Tryz.prog 41 Zz:=(ZbE (tot:=2) Tryz.underlying41 (by kernel_rfl) (Z4 (k:=1) (by kernel_rfl) (by kernel_rfl) (ZbZ Tryz.underlying3) (Z4 (k:=1) (by kernel_rfl) (by kernel_rfl) (Zcg (R:=rInt) Tryz.underlying39 (by kernel_rfl) (ZbZ Tryz.underlying3)) ZcX))).map (fun p=>(⟨p.1,p.2.1⟩:OrdD)) (fun _=>rfl)
theorem Zmg:ZdM Tryz.prog 25 Zo:=(ZbE (tot:=2) Tryz.underlying25 (by kernel_rfl) (Z4 (k:=1) (by kernel_rfl) (by kernel_rfl) (Zcg Tryz.underlying22 (by kernel_rfl) Zpw) (Z4 (k:=1) (by kernel_rfl) (by kernel_rfl) (Zcg Tryz.underlying23 (by kernel_rfl) Zn7) ZcX))).map (fun p=>(⟨p.1,p.2.1⟩:HistD)) (fun _=>rfl)
def Zl6 : List (String × DataW Unit) := [("unicode/utf8.acceptRanges", Rows.laid_unicode_utf8_acceptRanges), ("unicode/utf8.first", Rows.laid_unicode_utf8_first)]
theorem ZoN (os:Os) (args:Array Value):laidMetH Tryz.prog Zl6 ((World.laidAll Tryz.prog os Zl6).forCall (fun _ _=>0) ⟨#[],args,[]⟩).memory:=by
 rw [MakeChecks.laidMetH_plain _ _ _ (by kernel_rfl)]
 exact laidMet_laidAll _ (by kernel_rfl) (by kernel_rfl)
theorem Zhe:ownKnob Tryz.prog.godebug=none:=by kernel_rfl
theorem Zgo:laidOutB Tryz.prog=true:=by kernel_rfl
theorem Zf3:∀ t ∈ Tryz.f3.params.toList,Tryz.prog.readableRec t=true∧t<Tryz.prog.types.size:=by
 have h:(Tryz.f3.params.toList.all fun t=>Tryz.prog.readableRec t && Nat.blt t Tryz.prog.types.size)=true:=by kernel_rfl
 intro t ht
 have:=List.all_eq_true.1 h t ht
 simp only [Bool.and_eq_true,Nat.blt_eq] at this
 exact this
set_option maxRecDepth 100000 in
theorem ZeN (os:Os) (started:os.Started) (H:Type) (enc:TypeId×Value→H) :
   ReturnsInHanded {} Tryz.checked os 3 .any (fun w args=>(Rows.dumpAgainSpec.pre enc Tryz.prog Tryz.f3 [] false w args∧laidMetH Tryz.prog Zl6 w)∧sizedMet enc Tryz.prog Tryz.f3 (OpenSpec.ofChange Rows.dumpAgainSpec) false w args)
     (Rows.dumpAgainSpec.post enc Tryz.prog Tryz.f3 false true false false):=by
 refine returnsInHanded_of_change_and (C:=Tryz.checked) (X:=fun w _=>laidMetH Tryz.prog Zl6 w) (fun _ _ _ hh h=>h.of_heap hh) Zhe started (by kernel_rfl) Tryz.func3
   (ChangeSpec.witness_shaped (enc:=enc) (C:=Tryz.checked) (os:=os) (X:=fun w _=>laidMetH Tryz.prog Zl6 w) false (World.laidAll Tryz.prog os Zl6) #[.agg #[.slice none 0 0,.slice none 0 0]] 8 (World.laidAll_os _ _ _) (World.shaped_of_ZipB (by kernel_rfl) (by kernel_rfl)) (by kernel_rfl) (by kernel_rfl) (by kernel_rfl) (ZoN os _)) ?_
 intro W base args ds gs before hval hW _ _ hL _
 have hA:=(Zms (ZoY Tryz.underlying25 Zmg) (ZnG (P:=Tryz.prog)))
 exact ZiI (P:=Tryz.prog) (fn:=Tryz.f3) (s:=Rows.dumpAgainSpec) Zgo Zf3 hA (by rw [Tryz.params3]) (fun b=>ZjQ b.1) rfl (by kernel_rfl) Tryz.underlying4
   (fun H ds h=>by
     rw [Tryz.params3] at h
     match ds,h with
     | [d0],_=>rfl) H enc W base args ds gs before hval hW
theorem Zgq:Rows.DumpAgainSaid:=
 OpenClaim.holds_of_wide 3 Tryz.f3 rfl rfl rfl rfl rfl rfl rfl ⟨rfl,rfl,rfl,rfl,rfl⟩ rfl rfl rfl rfl rfl (by kernel_rfl) Tryz.func3 (by kernel_rfl)
   (of_decide_eq_true (by kernel_rfl)) (by unfold Func.isWrapper;first | (rw [if_pos (by decide +kernel)];kernel_rfl) | (rw [if_neg (by decide +kernel)];exact ⟨rfl,rfl⟩))
   (fun os started H enc _=>ZeN os started H enc)
theorem dumpAgain_proved:Rows.DumpAgainCardSaid:=
  Claim7.holds_tied_plain_at .later [] [.data, .pinned] true (true, "09dd2bfb7b70cb662472f8211ca89f7ea31acda316ffe5831ced32dab29773d9") true
    Zgq (fun _ h=>by cases h) (by kernel_rfl) (fun _ h=>by cases h) dumpAgain_row_tie rfl ⟨rfl,rfl⟩ (by kernel_rfl) rfl
    (fun f fn hf hfn=>by
      obtain rfl : f = 3 := Option.some.inj ((show Tryz.prog.funcNamed "tenter/tenterlaw40.DumpAgain" = some 3 by kernel_rfl).symm.trans hf) |>.symm
      obtain rfl:fn=Tryz.f3:=(Option.some.inj (Tryz.func3.symm.trans hfn)).symm
      exact ⟨by kernel_rfl,fun j t ht=>by
        rw [Tryz.params3] at ht
        have hm:t ∈ [25]:=by simpa using Array.mem_of_getElem? ht
        have hall:([25].all fun u=>!Tryz.prog.wantsStandIn u)=true:=by kernel_rfl
        exact (show Tryz.prog.wantsStandIn t=false by simpa using List.all_eq_true.1 hall t hm)⟩)
    (by kernel_rfl)
end Go.Proofs.YtjhapicamnijnaaGreatDoor
