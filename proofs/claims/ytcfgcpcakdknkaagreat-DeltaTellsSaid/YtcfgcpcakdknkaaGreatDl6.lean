/- Deltas: Empty,Same. No condition beyond those that each theorem says. -/
import Derived.Test.YtcfgcpcakdknkaaGreatDlX
import Derived.Test.YtcfgcpcakdknkaaGreatEdY
namespace Go.Proofs.YtcfgcpcakdknkaaGreat
open Go Go.Gm
set_option linter.unusedVariables false
set_option linter.unusedSimpArgs false
set_option maxHeartbeats 4000000
set_option maxRecDepth 8000
theorem deltaD_four (u v:DeltaD):(((decide (u.was=v.was) && decide (u.now=v.now)) && decide (u.old=v.old)) && decide (u.new=v.new))=decide (u=v):=by
 cases u;cases v
 rw [Bool.eq_iff_iff]
 simp [and_assoc]
theorem emptyD_sum (d:DeltaD) (h1:d.was.length≤1000000) (h2:d.now.length≤1000000) (h3:d.old.length≤1000000) (h4:d.new.length≤1000000):decide (IntKind.wrap .i64 (IntKind.wrap .i64 (IntKind.wrap .i64 ((d.was.length:Int)+d.now.length)+d.old.length)+d.new.length)=0)=emptyD d:=by
 rw [wrap_i64 (x:=(d.was.length:Int)+d.now.length) (by omega),wrap_i64 (x:=(d.was.length:Int)+d.now.length+d.old.length) (by omega),wrap_i64 (by omega)]
 unfold emptyD
 refine decide_eq_decide.2 ?_
 rw [← List.length_eq_zero_iff,← List.length_eq_zero_iff,← List.length_eq_zero_iff,← List.length_eq_zero_iff]
 omega
theorem emptyD_c (d:DeltaD) (hd:DOk d):FnP Tryz.prog 30 [.agg (rDelta d)] (.bool (emptyD d)):=by
 refine FnP.mk Tryz.func30 rfl Tryz.ntmps30 rfl ?_
 intro B a w F hB hfr hS
 refine wp_seq ?_
 refine region_q hS (qf (oX 101 (.conv .t .agg)) r1 qz (qf (oN .cb) trivial qz qZ)) hB ?_
 clear hS;intro a w F hS
 replace hS:=hS.sub
 obtain ⟨F,hS⟩:=hS.nm [2,1] [101,0] rfl rfl
 try dsimp only [RS.sub,SF.sub,CF.sub,csub,Anc.sub,List.map,zCF,rHist,rTx,rOrd,rVer,rInt,rOp,rDelta] at hS
 generalize Act.tau a 1=v1 at hS
 refine then_n (wp_seq ?_)
 refine region_z hS (qf (oF 0 101 .is) r1 r1 (qf (oL false 1 101 .adr) r1 r1 (qf (o_len_sl Tryz.underlying27 .t) r1 qz (qf (oF 1 101 .is) r1 r1 (qf (oL false 1 101 .adr) r1 r1 (qf (o_len_sl Tryz.underlying27 .t) r1 qz (qf (o_add .t .t) r2 qz (qf (oF 2 101 .is) r1 r1 (qf (oL false 1 101 .adr) r1 r1 (qf (o_len_sl Tryz.underlying28 .t) r1 qz (qf (o_add .t .t) r2 qz (qf (oF 3 101 .is) r1 r1 (qf (oL false 1 101 .adr) r1 r1 (qf (o_len_sl Tryz.underlying28 .t) r1 qz (qf (o_add .t .t) r2 qz (qf (o_eql .t qi) r1 qz (qN rfl rfl qZ))))))))))))))))) hB [2] [101,0] rfl rfl ?_
 clear hS;intro a w F hS
 refine then_n (wp_ret ?_)
 refine ret_P hfr hS rfl (.tmp rfl .nil) (.one (.bool (emptyD_sum d hd.was.1 hd.now.1 hd.old.1 hd.new.1)))
theorem sameD_c (u v:DeltaD):FnP Tryz.prog 37 [.agg (rDelta u),.agg (rDelta v)] (.bool (decide (u=v))):=by
 refine FnP.mk Tryz.func37 rfl Tryz.ntmps37 rfl ?_
 intro B a w F hB hfr hS
 refine wp_seq ?_
 refine region_q hS (qf (oX 101 (.conv .t .agg)) r1 qz (qf (oX 102 (.conv .t .agg)) r1 qz (qf (oN .cb) trivial qz qZ))) hB ?_
 clear hS;intro a w F hS
 replace hS:=hS.sub
 obtain ⟨F,hS⟩:=hS.nm [4,3,2] [102,101,0] rfl rfl
 try dsimp only [RS.sub,SF.sub,CF.sub,csub,Anc.sub,List.map,zCF,rHist,rTx,rOrd,rVer,rInt,rOp,rDelta] at hS
 generalize Act.tau a 2=v2 at hS
 generalize Act.tau a 3=v3 at hS
 refine then_n (wp_seq ?_)
 refine region_z hS (qf (oF 0 101 .is) r1 r1 (qf (oL false 1 101 .adr) r1 r1 (qf (oF 0 102 .is) r1 r1 (qf (oL false 1 102 .adr) r1 r1 (qf (oP (eqT_c u.was v.was 52 Tryz.f52 [] Tryz.func52 rfl (by kernel_rfl) (fun x y=>txSame_c x y)) Tryz.func85 (Args.three .t .t (.conv .f (Ent.fnClos)))) r2 qz (qM rfl rfl (qk rfl (fun h=>oF 1 101 .is) r2 r1 (qk rfl (fun h=>oL false 1 101 (.w h .adr)) r2 r1 (qk rfl (fun h=>oF 1 102 .is) r2 r1 (qk rfl (fun h=>oL false 1 102 (.w h .adr)) r2 r1 (qk rfl (fun h=>oP (eqT_c u.now v.now 52 Tryz.f52 [] Tryz.func52 rfl (by kernel_rfl) (fun x y=>txSame_c x y)) Tryz.func85 (Args.three (.w h) (.w h) (.conv .f (Ent.fnClos)))) r3 qz (qf (o_and2 .t .t) r2 qz (qM rfl rfl (qk rfl (fun h=>oF 2 101 .is) r2 r1 (qk rfl (fun h=>oL false 1 101 (.w h .adr)) r2 r1 (qk rfl (fun h=>oF 2 102 .is) r2 r1 (qk rfl (fun h=>oL false 1 102 (.w h .adr)) r2 r1 (qk rfl (fun h=>oP (eqR_c u.old v.old 55 Tryz.f55 [] Tryz.func55 rfl (by kernel_rfl) (fun x y=>dsameR_c x y)) Tryz.func86 (Args.three (.w h) (.w h) (.conv .f (Ent.fnClos)))) r3 qz (qf (o_and2 .t .t) r2 qz (qM rfl rfl (qk rfl (fun h=>oF 3 101 .is) r2 r1 (qk rfl (fun h=>oL false 1 101 (.w h .adr)) r2 r1 (qk rfl (fun h=>oF 3 102 .is) r2 r1 (qk rfl (fun h=>oL false 1 102 (.w h .adr)) r2 r1 (qk rfl (fun h=>oP (eqR_c u.new v.new 55 Tryz.f55 [] Tryz.func55 rfl (by kernel_rfl) (fun x y=>dsameR_c x y)) Tryz.func86 (Args.three (.w h) (.w h) (.conv .f (Ent.fnClos)))) r3 qz (qf (o_and2 .t .t) r2 qz (qN rfl rfl qZ))))))))))))))))))))))))))) hB [4] [102,101,0] rfl rfl ?_
 clear hS;intro a w F hS
 refine then_n (wp_ret ?_)
 refine ret_P hfr hS rfl (.tmp rfl .nil) (.one (.bool (deltaD_four u v)))
end Go.Proofs.YtcfgcpcakdknkaaGreat
