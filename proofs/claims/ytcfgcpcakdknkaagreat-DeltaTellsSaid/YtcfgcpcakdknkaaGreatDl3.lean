/- Deltas: Right,Of,Apply. No condition beyond those that each theorem says. -/
import Derived.Test.YtcfgcpcakdknkaaGreatDl2
import Derived.Test.YtcfgcpcakdknkaaGreatDaX
import Derived.Test.YtcfgcpcakdknkaaGreatHiX
namespace Go.Proofs.YtcfgcpcakdknkaaGreat
open Go Go.Gm
set_option linter.unusedVariables false
set_option linter.unusedSimpArgs false
set_option maxHeartbeats 4000000
set_option maxRecDepth 8000
theorem rightD_and (d:DeltaD):(((decide (RiseK TxD.id d.was) && decide (RiseK TxD.id d.now)) && decide (RiseK OrdD.key d.old)) && decide (RiseK OrdD.key d.new))=decide (RightD d):=by
 rw [Bool.eq_iff_iff]
 simp only [Bool.and_eq_true,decide_eq_true_eq]
 exact ⟨fun ⟨⟨⟨h1,h2⟩,h3⟩,h4⟩=>⟨h1,h2,h3,h4⟩,fun ⟨h1,h2,h3,h4⟩=>⟨⟨⟨h1,h2⟩,h3⟩,h4⟩⟩
def SmallD (d:DeltaD):Prop:=Small ⟨d.was,d.old⟩∧Small ⟨d.now,d.new⟩
theorem SmallD.ok {d:DeltaD} (h:SmallD d):DOk d:=by
 obtain ⟨⟨⟨h1,h2⟩,h3,h4⟩,⟨h5,h6⟩,h7,h8⟩:=h
 dsimp only at h1 h2 h3 h4 h5 h6 h7 h8
 exact ⟨⟨by omega,fun t ht=>by have:=h2 t ht;omega⟩,⟨by omega,fun t ht=>by have:=h6 t ht;omega⟩,⟨by omega,fun t ht=>by have:=h4 t ht;omega⟩,⟨by omega,fun t ht=>by have:=h8 t ht;omega⟩⟩
theorem SmallT.less {u v:List TxD} (h:SmallT u):SmallT (lessK TxD.id u v):=⟨Nat.le_trans (lessK_len _ _) h.1,fun t ht=>h.2 t (lessK_sub ht)⟩
theorem SmallO.less {u v:List OrdD} (h:SmallO u):SmallO (lessK OrdD.key u v):=⟨Nat.le_trans (lessK_len _ _) h.1,fun t ht=>h.2 t (lessK_sub ht)⟩
def betD (g1 g2:HistD):DeltaD:=⟨lessK TxD.id g1.txs g2.txs,lessK TxD.id g2.txs g1.txs,lessK OrdD.key g1.orders g2.orders,lessK OrdD.key g2.orders g1.orders⟩
theorem betD_small {g1 g2:HistD} (h1:Small g1) (h2:Small g2):SmallD (betD g1 g2):=⟨⟨h1.1.less,h1.2.less⟩,h2.1.less,h2.2.less⟩
theorem noH_le:PVsLe [.is (.slice none 0 0),.is (.slice none 0 0)] (rHist noH):=⟨.nilSl,.nilSl,trivial⟩
theorem noD_le:PVsLe [.is (.slice none 0 0),.is (.slice none 0 0),.is (.slice none 0 0),.is (.slice none 0 0)] (rDelta noD):=⟨.nilSl,.nilSl,.nilSl,.nilSl,trivial⟩
def SmallHD (g:HistD) (d:DeltaD):Prop:=Small g∧SmallD d∧Small (turnD g d)
theorem SmallHD.turn {g:HistD} {d:DeltaD} (h:SmallHD g d):Small (turnD g d):=h.2.2
theorem SmallHD.of {g:HistD} {d:DeltaD} (h1:Small g) (h2:SmallD d) (h3:g.txs.length+d.now.length≤1000) (h4:g.orders.length+d.new.length≤1000):SmallHD g d:=by
 refine ⟨h1,h2,⟨Nat.le_trans turn_len h3,fun t ht=>?_⟩,Nat.le_trans turn_len h4,fun t ht=>?_⟩
 · rcases turn_mem.1 ht with e | e
   · exact h1.1.2 t e.1
   · exact h2.2.1.2 t e
 · rcases turn_mem.1 ht with e | e
   · exact h1.2.2 t e.1
   · exact h2.2.2.2 t e
theorem TxsOk.of {l:List TxD} (h:SmallT l):TxsOk l:=⟨by have:=h.1;omega,fun t ht=>by have:=h.2 t ht;omega⟩
theorem OrdsOk.of {l:List OrdD} (h:SmallO l):OrdsOk l:=⟨by have:=h.1;omega,fun t ht=>by have:=h.2 t ht;omega⟩
theorem rightD_c (d:DeltaD) (hd:DOk d):FnP Tryz.prog 28 [.agg (rDelta d)] (.bool (decide (RightD d))):=by
 refine FnP.mk Tryz.func28 rfl Tryz.ntmps28 rfl ?_
 intro B a w F hB hfr hS
 refine wp_seq ?_
 refine region_q hS (qf (oX 101 (.conv .t .agg)) r1 qz (qf (oN .cb) trivial qz qZ)) hB ?_
 clear hS;intro a w F hS
 replace hS:=hS.sub
 obtain ⟨F,hS⟩:=hS.nm [2,1] [101,0] rfl rfl
 try dsimp only [RS.sub,SF.sub,CF.sub,csub,Anc.sub,List.map,zCF,rHist,rTx,rOrd,rVer,rInt,rOp,rDelta] at hS
 generalize Act.tau a 1=v1 at hS
 refine then_n (wp_seq ?_)
 refine region_z hS (qf (oF 0 101 .is) r1 r1 (qf (oL false 1 101 .adr) r1 r1 (qf (oP (risesT_c d.was hd.was.1) Tryz.func76 (Args.two .t (.conv .f (Ent.fnClos)))) r1 qz (qM rfl rfl (qk rfl (fun h=>oF 1 101 .is) r2 r1 (qk rfl (fun h=>oL false 1 101 (.w h .adr)) r2 r1 (qk rfl (fun h=>oP (risesT_c d.now hd.now.1) Tryz.func76 (Args.two (.w h) (.conv .f (Ent.fnClos)))) r2 qz (qf (o_and2 .t .t) r2 qz (qM rfl rfl (qk rfl (fun h=>oF 2 101 .is) r2 r1 (qk rfl (fun h=>oL false 1 101 (.w h .adr)) r2 r1 (qk rfl (fun h=>oP (risesR_c d.old hd.old.1) Tryz.func77 (Args.two (.w h) (.conv .f (Ent.fnClos)))) r2 qz (qf (o_and2 .t .t) r2 qz (qM rfl rfl (qk rfl (fun h=>oF 3 101 .is) r2 r1 (qk rfl (fun h=>oL false 1 101 (.w h .adr)) r2 r1 (qk rfl (fun h=>oP (risesR_c d.new hd.new.1) Tryz.func77 (Args.two (.w h) (.conv .f (Ent.fnClos)))) r2 qz (qf (o_and2 .t .t) r2 qz (qN rfl rfl qZ))))))))))))))))))) hB [2] [101,0] rfl rfl ?_
 clear hS;intro a w F hS
 refine then_n (wp_ret ?_)
 refine ret_P hfr hS rfl (.tmp rfl .nil) (.one (.bool (rightD_and d)))
theorem ofD_c (g1 g2:HistD) (h1:Small g1) (h2:Small g2):FnP Tryz.prog 23 [.agg (rHist g1),.agg (rHist g2)] (.tup [.agg (rDelta (ofD g1 g2).1),.int .i64 (ofD g1 g2).2]):=by
 refine FnP.mk Tryz.func23 rfl Tryz.ntmps23 rfl ?_
 intro B a w F hB hfr hS
 refine wp_seq ?_
 refine region_q hS (qf (oX 101 (.conv .t .agg)) r1 qz (qf (oX 102 (.conv .t .agg)) r1 qz (qf (oH [.slice none 0 0,.slice none 0 0,.slice none 0 0,.slice none 0 0] 103) trivial qz (qf (oN qi) trivial qz qZ)))) hB ?_
 clear hS;intro a w F hS
 replace hS:=hS.sub
 obtain ⟨F,hS⟩:=hS.nm [5,4,3,2] [103,102,101,0] rfl rfl
 try dsimp only [RS.sub,SF.sub,CF.sub,csub,Anc.sub,List.map,zCF,rHist,rTx,rOrd,rVer,rInt,rOp,rDelta] at hS
 generalize Act.tau a 2=v2 at hS
 generalize Act.tau a 3=v3 at hS
 generalize Act.tau a 4=v4 at hS
 refine then_n (wp_seq (wp_seq ?_))
 refine region_z hS (qf (oL true 2 101 .is) r1 r1 (qf (oP (rightH_c g1 h1) Tryz.func49 (Args.one (.pagg .t))) r1 qz (qf (o_not .t) r1 qz (qM rfl rfl (qk rfl (fun h=>oL true 2 102 .is) r2 r1 (qk rfl (fun h=>oP (rightH_c g2 h2) Tryz.func49 (Args.one (.pagg (.w h)))) r2 qz (qk rfl (fun h=>o_not (.w h)) r2 qz (qf (o_or2 .t .t) r2 qz qZ)))))))) hB [13,5,4,3,2] [103,102,101,0] rfl rfl ?_
 clear hS;intro a w F hS
 refine then_n ?_
 refine cond_b hS rfl (fun hc0=>?_) (fun hc0=>?_)
 ·skip
  have h9:(!decide (RightH g1) || !decide (RightH g2))=true:=hc0
  have hg:ofD g1 g2=(noD,5):=by unfold ofD;rw [if_neg (by rintro ⟨e1,e2⟩;rw [decide_eq_true e1,decide_eq_true e2] at h9;cases h9)]
  refine wp_seq ?_
  refine region_z hS (qf (oB [] [.slice none 0 0,.slice none 0 0,.slice none 0 0,.slice none 0 0] [(0,1),(1,1),(2,1),(3,1)] .nil) trivial qz (qf (oA 4 103 .is .t) r2 r1 (qf (oN qi) trivial qz qZ))) hB [5,4,3,2] [103,102,101,0] rfl rfl ?_
  clear hS;intro a w F hS
  refine then_n (wp_ret (then_r ?_))
  refine ret_P hfr hS rfl (.cell (n:=103) (ag:=true) (sz:=4) rfl .is rfl (by kernel_rfl) (by kernel_rfl) (by kernel_rfl) (.tmp rfl .nil)) (.two (by rw [hg];first | exact .aggU rfl rfl | exact .aggLe rfl noD_le) (.int (by rw [hg])))
 have h9:(!decide (RightH g1) || !decide (RightH g2))=false:=hc0
 have hr:RightH g1∧RightH g2:=by simpa using h9
 have hg:ofD g1 g2=(betD g1 g2,0):=by unfold ofD;rw [if_pos hr];rfl
 refine wp_skip (then_n (wp_seq ?_))
 refine region_any (by kernel_rfl) hS (by kernel_rfl) (qf (oF 0 101 .is) r1 r1 (qf (oL false 1 101 .adr) r1 r1 (qf (oF 0 102 .is) r1 r1 (qf (oL false 1 102 .adr) r1 r1 (qf (oP (lessT_c g1.txs g2.txs (by have:=h1.1.1;omega)) Tryz.func63 (Args.four .t .t (.conv .f (Ent.fnClos)) (.conv .f (Ent.fnClos)))) r2 qz (qf (oF 0 102 .is) r1 r1 (qf (oL false 1 102 .adr) r1 r1 (qf (oF 0 101 .is) r1 r1 (qf (oL false 1 101 .adr) r1 r1 (qf (oP (lessT_c g2.txs g1.txs (by have:=h2.1.1;omega)) Tryz.func63 (Args.four .t .t (.conv .f (Ent.fnClos)) (.conv .f (Ent.fnClos)))) r2 qz (qf (oF 1 101 .is) r1 r1 (qf (oL false 1 101 .adr) r1 r1 (qf (oF 1 102 .is) r1 r1 (qf (oL false 1 102 .adr) r1 r1 (qf (oP (lessR_c g1.orders g2.orders (by have:=h1.2.1;omega)) Tryz.func64 (Args.four .t .t (.conv .f (Ent.fnClos)) (.conv .f (Ent.fnClos)))) r2 qz (qf (oF 1 102 .is) r1 r1 (qf (oL false 1 102 .adr) r1 r1 (qf (oF 1 101 .is) r1 r1 (qf (oL false 1 101 .adr) r1 r1 (qf (oP (lessR_c g2.orders g1.orders (by have:=h2.2.1;omega)) Tryz.func64 (Args.four .t .t (.conv .f (Ent.fnClos)) (.conv .f (Ent.fnClos)))) r2 qz (qf (oB [(0,.tmp 19),(1,.tmp 24),(2,.tmp 29),(3,.tmp 34)] [.slice none 0 0,.slice none 0 0,.slice none 0 0,.slice none 0 0] [(0,1),(1,1),(2,1),(3,1)] (.one rfl .t one_sl (by kernel_rfl) (.one rfl .t one_sl (by kernel_rfl) (.one rfl .t one_sl (by kernel_rfl) (.one rfl .t one_sl (by kernel_rfl) .nil))))) r4 qz (qf (oP (dcopied_c (betD g1 g2) (betD_small h1 h2).ok) Tryz.func62 (Args.one (.pagg .t))) r1 qz (qf (oA 4 103 .is (.conv .t .agg)) r2 r1 (qf (oN qi) trivial qz qZ)))))))))))))))))))))))) (by kernel_rfl) (by rw [hB];kernel_rfl) ?_
 clear hS;intro a w F hS
 obtain ⟨F,hS⟩:=hS.nm [5,4] [103,102,101,0] rfl rfl
 try dsimp only [List.map,stCells,xL,xM,Nat.reduceAdd,xD,xE,xT,xU,xC,xN,zCF,ldSF,rHist,rTx,rOrd,rVer,rInt,rOp,rDelta] at hS
 refine then_n (wp_ret ?_)
 refine ret_P hfr hS rfl (.cell (n:=103) (ag:=true) (sz:=4) rfl .is rfl (by kernel_rfl) (by kernel_rfl) (by kernel_rfl) (.tmp rfl .nil)) (.two (by rw [hg];first | exact .aggU rfl rfl | exact .aggLe rfl noD_le) (.int (by rw [hg])))
theorem applyD_c (g:HistD) (d:DeltaD) (hsd:SmallHD g d):FnP Tryz.prog 16 [.agg (rHist g),.agg (rDelta d)] (.tup [.agg (rHist (applyD g d).1),.int .i64 (applyD g d).2]):=by
 refine FnP.mk Tryz.func16 rfl Tryz.ntmps16 rfl ?_
 intro B a w F hB hfr hS
 refine wp_seq ?_
 refine region_q hS (qf (oX 101 (.conv .t .agg)) r1 qz (qf (oX 102 (.conv .t .agg)) r1 qz (qf (oH [.slice none 0 0,.slice none 0 0] 103) trivial qz (qf (oN qi) trivial qz qZ)))) hB ?_
 clear hS;intro a w F hS
 replace hS:=hS.sub
 obtain ⟨F,hS⟩:=hS.nm [5,4,3,2] [103,102,101,0] rfl rfl
 try dsimp only [RS.sub,SF.sub,CF.sub,csub,Anc.sub,List.map,zCF,rHist,rTx,rOrd,rVer,rInt,rOp,rDelta] at hS
 generalize Act.tau a 2=v2 at hS
 generalize Act.tau a 3=v3 at hS
 generalize Act.tau a 4=v4 at hS
 refine then_n (wp_seq (wp_block (wp_seq ?_)))
 refine region_z hS (qf (oL true 2 101 .is) r1 r1 (qf (oP (rightH_c g hsd.1) Tryz.func49 (Args.one (.pagg .t))) r1 qz (qf (o_not .t) r1 qz (qM rfl rfl (qk rfl (fun h=>oL true 4 102 .is) r2 r1 (qk rfl (fun h=>oP (rightD_c d hsd.2.1.ok) Tryz.func28 (Args.one (.pagg (.w h)))) r2 qz (qk rfl (fun h=>o_not (.w h)) r2 qz (qf (o_or2 .t .t) r2 qz (qN rfl rfl qZ))))))))) hB [7,5,4,3,2] [103,102,101,0] rfl rfl ?_
 clear hS;intro a w F hS
 refine then_n ?_
 refine cond_b hS rfl (fun hc0=>?_) (fun hc0=>?_)
 ·skip
  have h9:(!decide (RightH g) || !decide (RightD d))=true:=hc0
  have hg:applyD g d=(noH,5):=by unfold applyD;rw [if_pos (by rintro ⟨e1,e2⟩;rw [decide_eq_true e1,decide_eq_true e2] at h9;cases h9)]
  refine wp_seq ?_
  refine region_z hS (qf (oB [] [.slice none 0 0,.slice none 0 0] [(0,1),(1,1)] .nil) trivial qz (qf (oA 2 103 .is .t) r2 r1 (qf (oN qi) trivial qz qZ))) hB [5,4,3,2] [103,102,101,0] rfl rfl ?_
  clear hS;intro a w F hS
  refine then_n (wp_ret (block_r (then_r ?_)))
  refine ret_P hfr hS rfl (.cell (n:=103) (ag:=true) (sz:=2) rfl .is rfl (by kernel_rfl) (by kernel_rfl) (by kernel_rfl) (.tmp rfl .nil)) (.two (by rw [hg];first | exact .aggU rfl rfl | exact .aggLe rfl noH_le) (.int (by rw [hg])))
 have h9:(!decide (RightH g) || !decide (RightD d))=false:=hc0
 have hr:RightH g∧RightD d:=by simpa using h9
 refine wp_seq ?_
 refine region_z hS (qf (oF 0 101 .is) r1 r1 (qf (oL false 1 101 .adr) r1 r1 (qf (oF 0 102 .is) r1 r1 (qf (oL false 1 102 .adr) r1 r1 (qf (oF 1 102 .is) r1 r1 (qf (oL false 1 102 .adr) r1 r1 (qf (oP (fitsT_c g.txs d.was d.now (by have:=hsd.2.1.1.1.1;dsimp only at this;omega)) Tryz.func50 (Args.five .t .t .t (.conv .f (Ent.fnClos)) (.conv .f (Ent.fnClos)))) r3 qz (qf (o_not .t) r1 qz (qM rfl rfl (qk rfl (fun h=>oF 1 101 .is) r2 r1 (qk rfl (fun h=>oL false 1 101 (.w h .adr)) r2 r1 (qk rfl (fun h=>oF 2 102 .is) r2 r1 (qk rfl (fun h=>oL false 1 102 (.w h .adr)) r2 r1 (qk rfl (fun h=>oF 3 102 .is) r2 r1 (qk rfl (fun h=>oL false 1 102 (.w h .adr)) r2 r1 (qk rfl (fun h=>oP (fitsR_c g.orders d.old d.new (by have:=hsd.2.1.1.2.1;dsimp only at this;omega)) Tryz.func53 (Args.five (.w h) (.w h) (.w h) (.conv .f (Ent.fnClos)) (.conv .f (Ent.fnClos)))) r4 qz (qk rfl (fun h=>o_not (.w h)) r2 qz (qf (o_or2 .t .t) r2 qz (qN rfl rfl qZ))))))))))))))))))) hB [17,5,4,3,2] [103,102,101,0] rfl rfl ?_
 clear hS;intro a w F hS
 refine then_n ?_
 refine cond_b hS rfl (fun hc1=>?_) (fun hc1=>?_)
 ·skip
  have h9:(!fitsK TxD.id g.txs d.was d.now || !fitsK OrdD.key g.orders d.old d.new)=true:=hc1
  have hg:applyD g d=(noH,17):=by unfold applyD;rw [if_neg (by simp [hr]),if_pos (by unfold fitsD;rw [← Bool.not_eq_true,Bool.and_eq_true];rintro ⟨e1,e2⟩;rw [e1,e2] at h9;cases h9)]
  refine wp_seq ?_
  refine region_z hS (qf (oB [] [.slice none 0 0,.slice none 0 0] [(0,1),(1,1)] .nil) trivial qz (qf (oA 2 103 .is .t) r2 r1 (qf (oN qi) trivial qz qZ))) hB [5,4,3,2] [103,102,101,0] rfl rfl ?_
  clear hS;intro a w F hS
  refine then_n (wp_ret (block_r (then_r ?_)))
  refine ret_P hfr hS rfl (.cell (n:=103) (ag:=true) (sz:=2) rfl .is rfl (by kernel_rfl) (by kernel_rfl) (by kernel_rfl) (.tmp rfl .nil)) (.two (by rw [hg];first | exact .aggU rfl rfl | exact .aggLe rfl noH_le) (.int (by rw [hg])))
 have h9:(!fitsK TxD.id g.txs d.was d.now || !fitsK OrdD.key g.orders d.old d.new)=false:=hc1
 have hf:fitsK TxD.id g.txs d.was d.now=true∧fitsK OrdD.key g.orders d.old d.new=true:=by simpa using h9
 have hfd:¬ fitsD g d=false:=by unfold fitsD;rw [hf.1,hf.2];simp
 refine wp_skip (block_n (then_n (wp_seq ?_)))
 refine region_any (by kernel_rfl) hS (by kernel_rfl) (qf (oF 0 101 .is) r1 r1 (qf (oL false 1 101 .adr) r1 r1 (qf (oF 0 102 .is) r1 r1 (qf (oL false 1 102 .adr) r1 r1 (qf (oF 1 102 .is) r1 r1 (qf (oL false 1 102 .adr) r1 r1 (qf (oP (turnedT_c g.txs d.was d.now (by have:=hsd.1.1.1;omega) (by have:=hsd.2.1.2.1.1;dsimp only at this;omega) (turn_unl hr.1.rise.1.unl hr.2.2.1.unl hf.1)) Tryz.func56 (Args.four .t .t .t (.conv .f (Ent.fnClos)))) r3 qz (qf (oF 1 101 .is) r1 r1 (qf (oL false 1 101 .adr) r1 r1 (qf (oF 2 102 .is) r1 r1 (qf (oL false 1 102 .adr) r1 r1 (qf (oF 3 102 .is) r1 r1 (qf (oL false 1 102 .adr) r1 r1 (qf (oP (turnedR_c g.orders d.old d.new (by have:=hsd.1.2.1;omega) (by have:=hsd.2.1.2.2.1;dsimp only at this;omega) (turn_unl hr.1.rise.2.unl hr.2.2.2.2.unl hf.2)) Tryz.func57 (Args.four .t .t .t (.conv .f (Ent.fnClos)))) r3 qz (qf (oB [(0,.tmp 43),(1,.tmp 50)] [.slice none 0 0,.slice none 0 0] [(0,1),(1,1)] (.one rfl .t one_sl (by kernel_rfl) (.one rfl .t one_sl (by kernel_rfl) .nil))) r2 qz (qf (oH [.slice none 0 0,.slice none 0 0] 104) trivial qz (qf (oA 2 104 .same .t) r2 r1 qZ))))))))))))))))) (by kernel_rfl) (by rw [hB];kernel_rfl) ?_
 clear hS;intro a w F hS
 replace hS:=hS.sub
 obtain ⟨F,hS⟩:=hS.nm [6,5,4] [104,103,102,101,0] rfl rfl
 try dsimp only [RS.sub,SF.sub,CF.sub,csub,Anc.sub,List.map,stCells,xL,xM,Nat.reduceAdd,xD,xE,xT,xU,xC,xN,zCF,ldSF,rHist,rTx,rOrd,rVer,rInt,rOp,rDelta] at hS
 generalize Act.tau a 6=v6 at hS
 refine then_n (wp_seq (wp_seq ?_))
 refine region_z hS (qf (oL true 2 104 .is) r1 r1 (qf (oP (rightH_c (turnD g d) hsd.turn) Tryz.func49 (Args.one (.pagg .t))) r1 qz (qf (o_not .t) r1 qz qZ))) hB [54,6,5,4] [104,103,102,101,0] rfl rfl ?_
 clear hS;intro a w F hS
 refine then_n ?_
 refine cond_b hS rfl (fun hc2=>?_) (fun hc2=>?_)
 ·skip
  have hr2:¬ RightH (turnD g d):=by simpa using hc2
  have hg:applyD g d=(noH,8):=by unfold applyD;rw [if_neg (by simp [hr]),if_neg hfd,if_neg hr2]
  refine wp_seq ?_
  refine region_z hS (qf (oB [] [.slice none 0 0,.slice none 0 0] [(0,1),(1,1)] .nil) trivial qz (qf (oA 2 103 .is .t) r2 r1 (qf (oN qi) trivial qz qZ))) hB [6,5,4] [104,103,102,101,0] rfl rfl ?_
  clear hS;intro a w F hS
  refine then_n (wp_ret (then_r ?_))
  refine ret_P hfr hS rfl (.cell (n:=103) (ag:=true) (sz:=2) rfl .is rfl (by kernel_rfl) (by kernel_rfl) (by kernel_rfl) (.tmp rfl .nil)) (.two (by rw [hg];first | exact .aggU rfl rfl | exact .aggLe rfl noH_le) (.int (by rw [hg])))
 have hr2:RightH (turnD g d):=by simpa using hc2
 have hg:applyD g d=(turnD g d,0):=by unfold applyD;rw [if_neg (by simp [hr]),if_neg hfd,if_pos hr2]
 refine wp_skip (then_n (wp_seq ?_))
 refine region_any (by kernel_rfl) hS (by kernel_rfl) (qf (oF 0 104 .is) r1 r1 (qf (oL false 1 104 .adr) r1 r1 (qf (oP (txs_c (turnD g d).txs (TxsOk.of hsd.turn.1).1 (TxsOk.of hsd.turn.1).2) Tryz.func58 (Args.one .t)) r1 qz (qf (oF 1 104 .is) r1 r1 (qf (oL false 1 104 .adr) r1 r1 (qf (oP (orders_c (turnD g d).orders (OrdsOk.of hsd.turn.2).1 (OrdsOk.of hsd.turn.2).2) Tryz.func59 (Args.one .t)) r1 qz (qf (oB [(0,.tmp 58),(1,.tmp 61)] [.slice none 0 0,.slice none 0 0] [(0,1),(1,1)] (.one rfl .t one_sl (by kernel_rfl) (.one rfl .t one_sl (by kernel_rfl) .nil))) r2 qz (qf (oA 2 103 .is .t) r2 r1 (qf (oN qi) trivial qz qZ))))))))) (by kernel_rfl) (by rw [hB];kernel_rfl) ?_
 clear hS;intro a w F hS
 obtain ⟨F,hS⟩:=hS.nm [5,4] [104,103,102,101,0] rfl rfl
 try dsimp only [List.map,stCells,xL,xM,Nat.reduceAdd,xD,xE,xT,xU,xC,xN,zCF,ldSF,rHist,rTx,rOrd,rVer,rInt,rOp,rDelta] at hS
 refine then_n (wp_ret ?_)
 refine ret_P hfr hS rfl (.cell (n:=103) (ag:=true) (sz:=2) rfl .is rfl (by kernel_rfl) (by kernel_rfl) (by kernel_rfl) (.tmp rfl .nil)) (.two (by rw [hg];first | exact .aggU rfl rfl | exact .aggLe rfl noH_le) (.int (by rw [hg])))
end Go.Proofs.YtcfgcpcakdknkaaGreat
