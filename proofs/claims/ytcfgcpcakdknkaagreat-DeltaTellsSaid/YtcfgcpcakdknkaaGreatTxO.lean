/- Right operations,versions of reads,texts. No condition beyond those that each theorem says. -/
import Derived.Test.YtcfgcpcakdknkaaGreatTxX
import Derived.Test.YtcfgcpcakdknkaaGreatPkX
namespace Go.Proofs.YtcfgcpcakdknkaaGreat
open Go Go.Gm
set_option linter.unusedVariables false
set_option linter.unusedSimpArgs false
set_option maxHeartbeats 4000000
set_option maxRecDepth 8000
def rightO (o:OpD):Bool:=if o.read=true then rightV ⟨o.tx,o.key,o.nth⟩ else (idB o.key && decide (o.tx=0)) && decide (o.nth=0)
def ofO (o:OpD):VerD:=if o.read=true then ⟨o.tx,o.key,o.nth⟩ else noV
def rightN (o:OpD):Int:=if rightO o=true then 0 else 1
theorem right_rng {o:OpD} (h:rightO o=true):(1≤o.key∧o.key≤1048575)∧(0≤o.tx∧o.tx≤1048575)∧(0≤o.nth∧o.nth≤4095):=by
 unfold rightO at h
 split at h
 · unfold rightV at h
   dsimp only at h
   split at h <;> simp only [Bool.and_eq_true,decide_eq_true_eq,idB_iff] at h <;> omega
 · simp only [Bool.and_eq_true,decide_eq_true_eq,idB_iff] at h
   omega
theorem right_read {o:OpD} (h:o.read=true):rightO o=rightV (ofO o):=by unfold rightO ofO;rw [if_pos h,if_pos h]
theorem right_write {o:OpD} (h:o.read=false):rightO o=((idB o.key && decide (o.tx=0)) && decide (o.nth=0)):=by unfold rightO;rw [if_neg (by rw [h];decide)]
theorem verR_right (v:VerD):(verR v).2=if rightV v=true then 0 else 1:=by unfold verR;split <;> rfl
theorem opOf_c (o:OpD):FnP Tryz.prog 167 [.agg (rOp o)] (.agg (rVer (ofO o))):=by
 refine FnP.mk Tryz.func167 rfl Tryz.ntmps167 rfl ?_
 intro B a w F hB hfr hS
 refine wp_seq ?_
 refine region_q hS (qf (oX 101 (.conv .t .agg)) r1 qz (qf (oH [.int .i64 0,.int .i64 0,.int .i64 0] 102) trivial qz qZ)) hB ?_
 clear hS;intro a w F hS
 replace hS:=hS.sub
 obtain ⟨F,hS⟩:=hS.nm [2,1] [102,101,0] rfl rfl
 try dsimp only [RS.sub,SF.sub,CF.sub,csub,Anc.sub,List.map,zCF] at hS
 generalize Act.tau a 1=v1 at hS
 generalize Act.tau a 2=v2 at hS
 refine then_n (wp_seq (wp_seq ?_))
 refine region_z hS (qf (oF 0 101 .is) r1 r1 (qf (oL false 1 101 .adr) r1 r1 (qf (o_not .t) r1 qz qZ))) hB [5,2,1] [102,101,0] rfl rfl ?_
 clear hS;intro a w F hS
 refine then_n ?_
 refine cond_b hS rfl (fun hc0=>?_) (fun hc0=>?_)
 ·skip
  have hr:o.read=false:=by simpa using hc0
  refine wp_seq ?_
  refine region_z hS (qf (oB [] [.int .i64 0,.int .i64 0,.int .i64 0] [(0,1),(1,1),(2,1)] .nil) trivial qz (qf (oA 3 102 .is .t) r2 r1 qZ)) hB [2,1] [102,101,0] rfl rfl ?_
  clear hS;intro a w F hS
  refine then_n (wp_ret (then_r ?_))
  refine ret_P hfr hS rfl (.cell (n:=102) (ag:=true) (sz:=3) rfl .is rfl (by kernel_rfl) (by kernel_rfl) (by kernel_rfl) .nil) (.one (.aggU rfl (by unfold ofO;rw [hr];rfl)))
 have hr:o.read=true:=by simpa using hc0
 refine wp_skip (then_n (wp_seq ?_))
 refine region_z hS (qf (oF 2 101 .is) r1 r1 (qf (oL false 1 101 .adr) r1 r1 (qf (oF 1 101 .is) r1 r1 (qf (oL false 1 101 .adr) r1 r1 (qf (oF 3 101 .is) r1 r1 (qf (oL false 1 101 .adr) r1 r1 (qf (oB [(0,.tmp 8),(1,.tmp 10),(2,.tmp 12)] [.int .i64 0,.int .i64 0,.int .i64 0] [(0,1),(1,1),(2,1)] (.one rfl .t one_int (by kernel_rfl) (.one rfl .t one_int (by kernel_rfl) (.one rfl .t one_int (by kernel_rfl) .nil)))) r3 qz (qf (oA 3 102 .is .t) r2 r1 qZ)))))))) hB [2] [102,101,0] rfl rfl ?_
 clear hS;intro a w F hS
 refine then_n (wp_ret ?_)
 refine ret_P hfr hS rfl (.cell (n:=102) (ag:=true) (sz:=3) rfl .is rfl (by kernel_rfl) (by kernel_rfl) (by kernel_rfl) .nil) (.one (.aggU rfl (by unfold ofO;rw [hr];rfl)))
theorem refOf_c (o:OpD):FnP Tryz.prog 163 [.agg (rOp o)] (.agg (rVer (ofO o))):=by
 refine FnP.mk Tryz.func163 rfl Tryz.ntmps163 rfl ?_
 intro B a w F hB hfr hS
 refine wp_seq ?_
 refine region_q hS (qf (oX 101 (.conv .t .agg)) r1 qz (qf (oH [.int .i64 0,.int .i64 0,.int .i64 0] 102) trivial qz qZ)) hB ?_
 clear hS;intro a w F hS
 replace hS:=hS.sub
 obtain ⟨F,hS⟩:=hS.nm [2,1] [102,101,0] rfl rfl
 try dsimp only [RS.sub,SF.sub,CF.sub,csub,Anc.sub,List.map,zCF] at hS
 generalize Act.tau a 1=v1 at hS
 generalize Act.tau a 2=v2 at hS
 refine then_n (wp_seq (wp_seq ?_))
 refine region_z hS (qf (oF 0 101 .is) r1 r1 (qf (oL false 1 101 .adr) r1 r1 (qf (o_not .t) r1 qz qZ))) hB [5,2,1] [102,101,0] rfl rfl ?_
 clear hS;intro a w F hS
 refine then_n ?_
 refine cond_b hS rfl (fun hc0=>?_) (fun hc0=>?_)
 ·skip
  have hr:o.read=false:=by simpa using hc0
  refine wp_seq ?_
  refine region_z hS (qf (oB [] [.int .i64 0,.int .i64 0,.int .i64 0] [(0,1),(1,1),(2,1)] .nil) trivial qz (qf (oA 3 102 .is .t) r2 r1 qZ)) hB [2,1] [102,101,0] rfl rfl ?_
  clear hS;intro a w F hS
  refine then_n (wp_ret (then_r ?_))
  refine ret_P hfr hS rfl (.cell (n:=102) (ag:=true) (sz:=3) rfl .is rfl (by kernel_rfl) (by kernel_rfl) (by kernel_rfl) .nil) (.one (.aggU rfl (by unfold ofO;rw [hr];rfl)))
 have hr:o.read=true:=by simpa using hc0
 refine wp_skip (then_n (wp_seq ?_))
 refine region_z hS (qf (oF 2 101 .is) r1 r1 (qf (oL false 1 101 .adr) r1 r1 (qf (oF 1 101 .is) r1 r1 (qf (oL false 1 101 .adr) r1 r1 (qf (oF 3 101 .is) r1 r1 (qf (oL false 1 101 .adr) r1 r1 (qf (oB [(0,.tmp 8),(1,.tmp 10),(2,.tmp 12)] [.int .i64 0,.int .i64 0,.int .i64 0] [(0,1),(1,1),(2,1)] (.one rfl .t one_int (by kernel_rfl) (.one rfl .t one_int (by kernel_rfl) (.one rfl .t one_int (by kernel_rfl) .nil)))) r3 qz (qf (oA 3 102 .is .t) r2 r1 qZ)))))))) hB [2] [102,101,0] rfl rfl ?_
 clear hS;intro a w F hS
 refine then_n (wp_ret ?_)
 refine ret_P hfr hS rfl (.cell (n:=102) (ag:=true) (sz:=3) rfl .is rfl (by kernel_rfl) (by kernel_rfl) (by kernel_rfl) .nil) (.one (.aggU rfl (by unfold ofO;rw [hr];rfl)))
theorem opRight_c (o:OpD):FnP Tryz.prog 138 [.agg (rOp o)] (.int .i64 (rightN o)):=by
 refine FnP.mk Tryz.func138 rfl Tryz.ntmps138 rfl ?_
 intro B a w F hB hfr hS
 refine wp_seq ?_
 refine region_q hS (qf (oX 101 (.conv .t .agg)) r1 qz (qf (oN qi) trivial qz qZ)) hB ?_
 clear hS;intro a w F hS
 replace hS:=hS.sub
 obtain ⟨F,hS⟩:=hS.nm [2,1] [101,0] rfl rfl
 try dsimp only [RS.sub,SF.sub,CF.sub,csub,Anc.sub,List.map,zCF] at hS
 generalize Act.tau a 1=v1 at hS
 refine then_n (wp_seq (wp_seq ?_))
 refine region_z hS (qf (oF 0 101 .is) r1 r1 (qf (oL false 1 101 .adr) r1 r1 qZ)) hB [6,2,1] [101,0] rfl rfl ?_
 clear hS;intro a w F hS
 refine then_n ?_
 refine cond_b hS rfl (fun hc0=>?_) (fun hc0=>?_)
 ·skip
  have hg:(verR (ofO o)).2=rightN o:=by rw [verR_right];unfold rightN;rw [right_read hc0]
  refine wp_seq ?_
  refine region_z hS (qf (oL true 4 101 .is) r1 r1 (qf (oP (opOf_c o) Tryz.func167 (Args.one (.pagg .t))) r1 qz (qf (oP (version_c (ofO o)) Tryz.func166 (Args.one .t)) r1 qz (qM rfl rfl (qf (o_extract .t rfl) r1 qz (qf (o_extract .t rfl) r1 qz (qN rfl rfl (qN rfl rfl qZ)))))))) hB [4,2,1] [101,0] rfl rfl ?_
  clear hS;intro a w F hS
  refine then_n (wp_seq ?_)
  refine region_z hS (qM rfl rfl (qN rfl rfl qZ)) hB [2,1] [101,0] rfl rfl ?_
  clear hS;intro a w F hS
  refine then_n (wp_ret (then_r ?_))
  refine ret_P hfr hS rfl (.tmp rfl .nil) (.one (.int hg))
 have hr:o.read=false:=hc0
 refine wp_skip (then_n (wp_seq (wp_seq ?_)))
 refine region_z hS (qf (oL true 4 101 .is) r1 r1 (qf (oF 1 101 .is) r1 r1 (qf (oL false 1 101 .adr) r1 r1 (qf (oB [(1,.tmp 16)] [.bool false,.int .i64 0,.int .i64 0,.int .i64 0] [(0,1),(1,1),(2,1),(3,1)] (.one rfl .t one_int (by kernel_rfl) .nil)) r1 qz (qf (o_neqS (ks:=[false,true,true,true]) (by kernel_rfl) .t .t (.bool (.int (.int (.int .nil))))) r2 qz (qM rfl rfl (qk rfl (fun h=>oF 1 101 .is) r2 r1 (qk rfl (fun h=>oL false 1 101 (.w h .adr)) r2 r1 (qk rfl (fun h=>o_lss (.w h) qi) r2 qz (qf (o_or2 .t .t) r2 qz (qM rfl rfl (qk rfl (fun h=>oF 1 101 .is) r2 r1 (qk rfl (fun h=>oL false 1 101 (.w h .adr)) r2 r1 (qk rfl (fun h=>o_gtr (.w h) qi) r2 qz (qf (o_or2 .t .t) r2 qz qZ))))))))))))))) hB [28,2] [101,0] rfl rfl ?_
 clear hS;intro a w F hS
 refine then_n ?_
 refine cond_b hS rfl (fun hc1=>?_) (fun hc1=>?_)
 ·skip
  have hg:(1:Int)=rightN o:=by
    unfold rightN
    rw [if_neg]
    rw [right_write hr]
    simp [hr,idB] at hc1 ⊢
    omega
  refine wp_seq ?_
  refine region_z hS (qf (oN qi) trivial qz qZ) hB [2] [101,0] rfl rfl ?_
  clear hS;intro a w F hS
  refine then_n (wp_ret (then_r ?_))
  refine ret_P hfr hS rfl (.tmp rfl .nil) (.one (.int hg))
 have hg:(0:Int)=rightN o:=by
   unfold rightN
   rw [if_pos]
   rw [right_write hr]
   simp [hr,idB] at hc1 ⊢
   omega
 refine wp_skip (then_n (wp_seq ?_))
 refine region_z hS (qf (oN qi) trivial qz qZ) hB [2] [101,0] rfl rfl ?_
 clear hS;intro a w F hS
 refine then_n (wp_ret ?_)
 refine ret_P hfr hS rfl (.tmp rfl .nil) (.one (.int hg))
theorem refOpRight_c (o:OpD):FnP Tryz.prog 126 [.agg (rOp o)] (.bool (rightO o)):=by
 refine FnP.mk Tryz.func126 rfl Tryz.ntmps126 rfl ?_
 intro B a w F hB hfr hS
 refine wp_seq ?_
 refine region_q hS (qf (oX 101 (.conv .t .agg)) r1 qz (qf (oN .cb) trivial qz qZ)) hB ?_
 clear hS;intro a w F hS
 replace hS:=hS.sub
 obtain ⟨F,hS⟩:=hS.nm [2,1] [101,0] rfl rfl
 try dsimp only [RS.sub,SF.sub,CF.sub,csub,Anc.sub,List.map,zCF] at hS
 generalize Act.tau a 1=v1 at hS
 refine then_n (wp_seq (wp_seq ?_))
 refine region_z hS (qf (oF 0 101 .is) r1 r1 (qf (oL false 1 101 .adr) r1 r1 qZ)) hB [4,2,1] [101,0] rfl rfl ?_
 clear hS;intro a w F hS
 refine then_n ?_
 refine cond_b hS rfl (fun hc0=>?_) (fun hc0=>?_)
 ·skip
  have hg:rightV (ofO o)=rightO o:=(right_read hc0).symm
  refine wp_seq ?_
  refine region_z hS (qf (oL true 4 101 .is) r1 r1 (qf (oP (refOf_c o) Tryz.func163 (Args.one (.pagg .t))) r1 qz (qf (oP (rightV_c (ofO o)) Tryz.func162 (Args.one .t)) r1 qz (qN rfl rfl qZ)))) hB [2,1] [101,0] rfl rfl ?_
  clear hS;intro a w F hS
  refine then_n (wp_ret (then_r ?_))
  refine ret_P hfr hS rfl (.tmp rfl .nil) (.one (.bool hg))
 have hg:((idB o.key && decide (o.tx=0)) && decide (o.nth=0))=rightO o:=(right_write hc0).symm
 refine wp_skip (then_n (wp_seq ?_))
 refine region_z hS (qf (oF 1 101 .is) r1 r1 (qf (oL false 1 101 .adr) r1 r1 (qf (oP (refId_c o.key) Tryz.func125 (Args.one .t)) r1 qz (qM rfl rfl (qk rfl (fun h=>oF 2 101 .is) r2 r1 (qk rfl (fun h=>oL false 1 101 (.w h .adr)) r2 r1 (qk rfl (fun h=>o_eql (.w h) qi) r2 qz (qf (o_and2 .t .t) r2 qz (qM rfl rfl (qk rfl (fun h=>oF 3 101 .is) r2 r1 (qk rfl (fun h=>oL false 1 101 (.w h .adr)) r2 r1 (qk rfl (fun h=>o_eql (.w h) qi) r2 qz (qf (o_and2 .t .t) r2 qz (qN rfl rfl qZ)))))))))))))) hB [2] [101,0] rfl rfl ?_
 clear hS;intro a w F hS
 refine then_n (wp_ret ?_)
 refine ret_P hfr hS rfl (.tmp rfl .nil) (.one (.bool hg))
end Go.Proofs.YtcfgcpcakdknkaaGreat
