/- Deltas: Join. No condition beyond those that each theorem says. -/
import Derived.Test.YtcfgcpcakdknkaaGreatDl9
import Derived.Test.YtcfgcpcakdknkaaGreatDl3
import Derived.Test.YtcfgcpcakdknkaaGreatDl6
namespace Go.Proofs.YtcfgcpcakdknkaaGreat
open Go Go.Gm
set_option linter.unusedVariables false
set_option linter.unusedSimpArgs false
set_option maxHeartbeats 4000000
set_option maxRecDepth 8000
theorem Args.six {x1 x2 x3 x4 x5 x6:Operand} {ps1 ps2 ps3 ps4 ps5 ps6:List (Nat×SF)} {p1 p2 p3 p4 p5 p6:PV} (h1:Opd x1 ps1 (.pv p1)) (h2:Opd x2 ps2 (.pv p2)) (h3:Opd x3 ps3 (.pv p3)) (h4:Opd x4 ps4 (.pv p4)) (h5:Opd x5 ps5 (.pv p5)) (h6:Opd x6 ps6 (.pv p6)) :
   ∀ (a:Act) w y,Hps (ps1++(ps2++(ps3++(ps4++(ps5++ps6))))) (Act.tau a) w y → ∃ vs:List Value,(#[x1,x2,x3,x4,x5,x6]:Array Operand).map a.eval=vs.toArray∧PVt [p1,p2,p3,p4,p5,p6] vs w y:=
 fun a w y hp=>⟨[a.eval x1,a.eval x2,a.eval x3,a.eval x4,a.eval x5,a.eval x6],by simp,h1 a w y hp.left,h2 a w y hp.right.left,h3 a w y hp.right.right.left,h4 a w y hp.right.right.right.left,h5 a w y hp.right.right.right.right.left,h6 a w y hp.right.right.right.right.right,trivial⟩
theorem joinR_some {α:Type} [DecidableEq α] {κ:α→Int} {was now old next:List α} (h:(joinR κ was now old next).2.2=true):joinK κ was now old next=some ((joinR κ was now old next).1,(joinR κ was now old next).2.1):=by
 unfold joinR at h ⊢
 cases hj:joinK κ was now old next with
 | none=>rw [hj] at h;cases h
 | some p=>rfl
theorem joinR_none {α:Type} [DecidableEq α] {κ:α→Int} {was now old next:List α} (h:(joinR κ was now old next).2.2=false):joinK κ was now old next=none:=by
 unfold joinR at h
 cases hj:joinK κ was now old next with
 | none=>rfl
 | some p=>rw [hj] at h;cases h
theorem joinD_c (d e:DeltaD) (hd:SmallD d) (he:SmallD e):FnP Tryz.prog 25 [.agg (rDelta d),.agg (rDelta e)] (.tup [.agg (rDelta (joinD d e).1),.int .i64 (joinD d e).2]):=by
 refine FnP.mk Tryz.func25 rfl Tryz.ntmps25 rfl ?_
 intro B a w F hB hfr hS
 refine wp_seq ?_
 refine region_q hS (qf (oX 101 (.conv .t .agg)) r1 qz (qf (oX 102 (.conv .t .agg)) r1 qz (qf (oH [.slice none 0 0,.slice none 0 0,.slice none 0 0,.slice none 0 0] 103) trivial qz (qf (oN qi) trivial qz qZ)))) hB ?_
 clear hS;intro a w F hS
 replace hS:=hS.sub
 obtain ⟨F,hS⟩:=hS.nm [5,4,3,2] [103,102,101,0] rfl rfl
 try dsimp only [RS.sub,SF.sub,CF.sub,csub,Anc.sub,List.map,zCF,rHist,rTx,rOrd,rVer,rInt,rOp,rDelta] at hS
 generalize Act.tau a 2=v2 at hS
 generalize Act.tau a 3=v3 at hS
 generalize Act.tau a 4=v4 at hS
 refine then_n (wp_seq (wp_seq ?_))
 refine region_z hS (qf (oL true 4 101 .is) r1 r1 (qf (oP (rightD_c d hd.ok) Tryz.func28 (Args.one (.pagg .t))) r1 qz (qf (o_not .t) r1 qz (qM rfl rfl (qk rfl (fun h=>oL true 4 102 .is) r2 r1 (qk rfl (fun h=>oP (rightD_c e he.ok) Tryz.func28 (Args.one (.pagg (.w h)))) r2 qz (qk rfl (fun h=>o_not (.w h)) r2 qz (qf (o_or2 .t .t) r2 qz qZ)))))))) hB [19,5,4,3,2] [103,102,101,0] rfl rfl ?_
 clear hS;intro a w F hS
 refine then_n ?_
 refine cond_b hS rfl (fun hc0=>?_) (fun hc0=>?_)
 ·skip
  have h9:(!decide (RightD d) || !decide (RightD e))=true:=hc0
  have hg:joinD d e=(noD,5):=by unfold joinD;rw [if_neg (by rintro ⟨e1,e2⟩;rw [decide_eq_true e1,decide_eq_true e2] at h9;cases h9)]
  refine wp_seq ?_
  refine region_z hS (qf (oB [] [.slice none 0 0,.slice none 0 0,.slice none 0 0,.slice none 0 0] [(0,1),(1,1),(2,1),(3,1)] .nil) trivial qz (qf (oA 4 103 .is .t) r2 r1 (qf (oN qi) trivial qz qZ))) hB [5,4,3,2] [103,102,101,0] rfl rfl ?_
  clear hS;intro a w F hS
  refine then_n (wp_ret (then_r ?_))
  refine ret_P hfr hS rfl (.cell (n:=103) (ag:=true) (sz:=4) rfl .is rfl (by kernel_rfl) (by kernel_rfl) (by kernel_rfl) (.tmp rfl .nil)) (.two (by rw [hg];first | exact .aggU rfl rfl | exact .aggLe rfl noD_le) (.int (by rw [hg])))
 have h9:(!decide (RightD d) || !decide (RightD e))=false:=hc0
 have hr:RightD d∧RightD e:=by simpa using h9
 refine wp_skip (then_n (wp_seq ?_))
 refine region_z hS (qf (oF 0 101 .is) r1 r1 (qf (oL false 1 101 .adr) r1 r1 (qf (oF 1 101 .is) r1 r1 (qf (oL false 1 101 .adr) r1 r1 (qf (oF 0 102 .is) r1 r1 (qf (oL false 1 102 .adr) r1 r1 (qf (oF 1 102 .is) r1 r1 (qf (oL false 1 102 .adr) r1 r1 (qf (oP (bothT_c d.was d.now e.was e.now (by have:=hd.1.1.1;dsimp only at this;omega) (by have:=hd.2.1.1;dsimp only at this;omega) (by have:=he.1.1.1;dsimp only at this;omega) (by have:=he.2.1.1;dsimp only at this;omega)) Tryz.func70 (Args.six .t .t .t .t (.conv .f (Ent.fnClos)) (.conv .f (Ent.fnClos)))) r4 qz (qM rfl rfl (qf (o_extract .t rfl) r1 qz (qf (o_extract .t rfl) r1 qz (qf (o_extract .t rfl) r1 qz (qN rfl rfl (qN rfl rfl (qN rfl rfl qZ)))))))))))))))) hB [8,7,6,5,4,3,2] [103,102,101,0] rfl rfl ?_
 clear hS;intro a w F hS
 refine then_n (wp_seq ?_)
 refine region_z hS (qf (oF 2 101 .is) r1 r1 (qf (oL false 1 101 .adr) r1 r1 (qf (oF 3 101 .is) r1 r1 (qf (oL false 1 101 .adr) r1 r1 (qf (oF 2 102 .is) r1 r1 (qf (oL false 1 102 .adr) r1 r1 (qf (oF 3 102 .is) r1 r1 (qf (oL false 1 102 .adr) r1 r1 (qf (oP (bothR_c d.old d.new e.old e.new (by have:=hd.1.2.1;dsimp only at this;omega) (by have:=hd.2.2.1;dsimp only at this;omega) (by have:=he.1.2.1;dsimp only at this;omega) (by have:=he.2.2.1;dsimp only at this;omega)) Tryz.func71 (Args.six .t .t .t .t (.conv .f (Ent.fnClos)) (.conv .f (Ent.fnClos)))) r4 qz (qM rfl rfl (qf (o_extract .t rfl) r1 qz (qf (o_extract .t rfl) r1 qz (qf (o_extract .t rfl) r1 qz (qN rfl rfl (qN rfl rfl (qN rfl rfl qZ)))))))))))))))) hB [11,10,9,8,7,6,5,4] [103,102,101,0] rfl rfl ?_
 clear hS;intro a w F hS
 refine then_n (wp_seq (wp_seq ?_))
 refine region_z hS (qM rfl rfl (qf (o_not .t) r1 qz (qM rfl rfl (qm rfl rfl rfl rfl (qk rfl (fun h=>o_not (.w h)) r2 qz (qf (o_or2 .t .t) r2 qz qZ)))))) hB [52,10,9,7,6,5,4] [103,102,101,0] rfl rfl ?_
 clear hS;intro a w F hS
 refine then_n ?_
 refine cond_b hS rfl (fun hc1=>?_) (fun hc1=>?_)
 ·skip
  have h9:(!(joinR TxD.id d.was d.now e.was e.now).2.2 || !(joinR OrdD.key d.old d.new e.old e.new).2.2)=true:=hc1
  have hg:joinD d e=(noD,17):=by
    unfold joinD
    rw [if_pos hr]
    cases h1:(joinR TxD.id d.was d.now e.was e.now).2.2 with
    | false=>rw [joinR_none h1]
    | true=>
      rw [h1] at h9
      rw [joinR_some h1,joinR_none (show (joinR OrdD.key d.old d.new e.old e.new).2.2=false from not_tr h9)]
  refine wp_seq ?_
  refine region_z hS (qf (oB [] [.slice none 0 0,.slice none 0 0,.slice none 0 0,.slice none 0 0] [(0,1),(1,1),(2,1),(3,1)] .nil) trivial qz (qf (oA 4 103 .is .t) r2 r1 (qf (oN qi) trivial qz qZ))) hB [10,9,7,6,5,4] [103,102,101,0] rfl rfl ?_
  clear hS;intro a w F hS
  refine then_n (wp_ret (then_r ?_))
  refine ret_P hfr hS rfl (.cell (n:=103) (ag:=true) (sz:=4) rfl .is rfl (by kernel_rfl) (by kernel_rfl) (by kernel_rfl) (.tmp rfl .nil)) (.two (by rw [hg];first | exact .aggU rfl rfl | exact .aggLe rfl noD_le) (.int (by rw [hg])))
 have h9:(!(joinR TxD.id d.was d.now e.was e.now).2.2 || !(joinR OrdD.key d.old d.new e.old e.new).2.2)=false:=hc1
 have h8:(joinR TxD.id d.was d.now e.was e.now).2.2=true∧(joinR OrdD.key d.old d.new e.old e.new).2.2=true:=by simpa using h9
 have hjt:=joinR_some h8.1
 have hjr:=joinR_some h8.2
 have hg:joinD d e=((⟨(joinR TxD.id d.was d.now e.was e.now).1,(joinR TxD.id d.was d.now e.was e.now).2.1,(joinR OrdD.key d.old d.new e.old e.new).1,(joinR OrdD.key d.old d.new e.old e.new).2.1⟩:DeltaD),0):=by unfold joinD;rw [if_pos hr,hjt,hjr]
 refine wp_skip (then_n (wp_seq ?_))
 refine region_z hS (qM rfl rfl (qM rfl rfl (qM rfl rfl (qM rfl rfl (qf (oB [(0,.tmp 54),(1,.tmp 55),(2,.tmp 56),(3,.tmp 57)] [.slice none 0 0,.slice none 0 0,.slice none 0 0,.slice none 0 0] [(0,1),(1,1),(2,1),(3,1)] (.one rfl .t one_sl (by kernel_rfl) (.one rfl .t one_sl (by kernel_rfl) (.one rfl .t one_sl (by kernel_rfl) (.one rfl .t one_sl (by kernel_rfl) .nil))))) r4 qz (qf (oP (dcopied_c (⟨(joinR TxD.id d.was d.now e.was e.now).1,(joinR TxD.id d.was d.now e.was e.now).2.1,(joinR OrdD.key d.old d.new e.old e.new).1,(joinR OrdD.key d.old d.new e.old e.new).2.1⟩:DeltaD) (joinD_ok hd he hjt hjr)) Tryz.func62 (Args.one (.pagg .t))) r1 qz (qf (oA 4 103 .is (.conv .t .agg)) r2 r1 (qf (oN qi) trivial qz qZ)))))))) hB [5,4] [103,102,101,0] rfl rfl ?_
 clear hS;intro a w F hS
 refine then_n (wp_ret ?_)
 refine ret_P hfr hS rfl (.cell (n:=103) (ag:=true) (sz:=4) rfl .is rfl (by kernel_rfl) (by kernel_rfl) (by kernel_rfl) (.tmp rfl .nil)) (.two (by rw [hg];first | exact .aggU rfl rfl | exact .aggLe rfl noD_le) (.int (by rw [hg])))
end Go.Proofs.YtcfgcpcakdknkaaGreat
