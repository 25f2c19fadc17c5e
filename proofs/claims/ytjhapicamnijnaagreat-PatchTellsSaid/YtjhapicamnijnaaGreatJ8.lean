/- Texts put together. No condition beyond those that each theorem says. -/
import Derived.Test.YtjhapicamnijnaaGreatJ6
import Derived.Test.YtjhapicamnijnaaGreatJ4
import Derived.Test.YtjhapicamnijnaaGreatJ7
import Derived.Test.YtjhapicamnijnaaGreatJ3
import Derived.Test.YtjhapicamnijnaaGreatJ0
import Derived.Test.YtjhapicamnijnaaGreatJ1
import Derived.Test.YtjhapicamnijnaaGreatJ5
namespace Go.Proofs.YtjhapicamnijnaaGreat
open Go Go.Gm
set_option linter.unusedVariables false
set_option linter.unusedSimpArgs false
set_option maxHeartbeats 4000000
set_option maxRecDepth 8000
theorem ZkV (g:Zn) (c:CmdD) (hs:ZaK g) (hc:Zac c):FnP Tryz.prog 25 [.agg (Zj g),.agg (rCmd c)] (.tup [.agg (Zj (Z0 g c).1),.int .i64 (Z0 g c).2]):=by
 refine FnP.mk Tryz.func25 rfl Tryz.ntmps25 rfl ?_
 intro B a w F hB hfr hS
 refine wp_seq ?_
 refine Zc hS (qx 101 r1 (qx 102 r1 (qf (oH [.slice none 0 0,.slice none 0 0] 103) trivial qz (qI qZ)))) hB [5,4,3,2] [103,102,101,0] (fun _=>rfl) (fun _=>rfl) fun τ a w F hS=>?_
 try dsimp only [RS.sub,SF.sub,CF.sub,csub,Anc.sub,List.map,zCF,Zj,rTx,Zs,Zv,rInt,rOp,rCmd] at hS
 generalize τ 2=v2 at hS
 generalize τ 3=v3 at hS
 generalize τ 4=v4 at hS
 refine Za (wp_seq (wp_seq ?_))
 refine Zb hS (qg 0 102 r1 r1 (qa 102 r1 r1 qZ)) hB [7,5,4,3,2] [103,102,101,0] rfl rfl fun a w F hS=>Za (wp_block (wp_seq ?_))
 refine Zb hS (qf (o_eql .t qi) r1 qz (qN rfl rfl qZ)) hB [8,7,5,4,3,2] [103,102,101,0] rfl rfl fun a w F hS=>Za ?_
 refine Zd hS rfl (fun hc0=>?_) (fun hc0=>?_)
 ·skip
  have hg:Z0 g c=Z6 g c.tx:=by unfold Z0;rw [if_pos (by simpa using hc0)]
  refine wp_seq ?_
  refine Zb hS (qe 2 101 r1 r1 (qg 1 102 r1 r1 (qf (oL true 3 102 .adr) r1 r1 (qf (oP (Zkd g c.tx hs (by have:=hc.1;omega)) Tryz.func55 (Args.two (.pagg .t) (.pagg .t))) r2 qz (qf (o_extract .t rfl) r1 qz (qf (o_extract .t rfl) r1 qz (qf (oA 2 103 .is (.conv .t .agg)) r2 r1 (qN rfl rfl qZ)))))))) hB [5,4] [103,102,101,0] rfl rfl fun a w F hS=>Za (wp_ret (Zm (Zg ?_)))
  refine ZA hfr hS rfl (.cl 103 true 2 rfl rfl (.tmp rfl .nil)) (.two (by rw [hg];first | exact .aggU rfl rfl | exact .aggLe rfl ⟨PVLe.nilSl,PVLe.nilSl,trivial⟩) (.int (by rw [hg])))
 have k1:¬ c.kind=1:=by simpa using hc0
 refine wp_seq ?_
 refine Zb hS (qf (o_eql .t qi) r1 qz (qN rfl rfl qZ)) hB [16,7,5,4,3,2] [103,102,101,0] rfl rfl fun a w F hS=>Za ?_
 refine Zd hS rfl (fun hc1=>?_) (fun hc1=>?_)
 ·skip
  have hg:Z0 g c=Zar g c.tx:=by unfold Z0;rw [if_neg k1,if_pos (by simpa using hc1)]
  refine wp_seq ?_
  refine Zb hS (qe 2 101 r1 r1 (qg 1 102 r1 r1 (qf (oL true 3 102 .adr) r1 r1 (qf (oP (Zms g c.tx hs (by have:=hc.1;omega)) Tryz.func56 (Args.two (.pagg .t) (.pagg .t))) r2 qz (qf (o_extract .t rfl) r1 qz (qf (o_extract .t rfl) r1 qz (qf (oA 2 103 .is (.conv .t .agg)) r2 r1 (qN rfl rfl qZ)))))))) hB [5,4] [103,102,101,0] rfl rfl fun a w F hS=>Za (wp_ret (Zm (Zg ?_)))
  refine ZA hfr hS rfl (.cl 103 true 2 rfl rfl (.tmp rfl .nil)) (.two (by rw [hg];first | exact .aggU rfl rfl | exact .aggLe rfl ⟨PVLe.nilSl,PVLe.nilSl,trivial⟩) (.int (by rw [hg])))
 have k2:¬ c.kind=2:=by simpa using hc1
 refine wp_seq ?_
 refine Zb hS (qf (o_eql .t qi) r1 qz (qN rfl rfl qZ)) hB [24,7,5,4,3,2] [103,102,101,0] rfl rfl fun a w F hS=>Za ?_
 refine Zd hS rfl (fun hc2=>?_) (fun hc2=>?_)
 ·skip
  have hg:Z0 g c=ZY g c.id:=by unfold Z0;rw [if_neg k1,if_neg k2,if_pos (by simpa using hc2)]
  refine wp_seq ?_
  refine Zb hS (qe 2 101 r1 r1 (qg 7 102 r1 r1 (qa 102 r1 r1 (qf (oP (ZlD g c.id hs) Tryz.func57 (Args.two (.pagg .t) .t)) r2 qz (qf (o_extract .t rfl) r1 qz (qf (o_extract .t rfl) r1 qz (qf (oA 2 103 .is (.conv .t .agg)) r2 r1 (qN rfl rfl qZ)))))))) hB [5,4] [103,102,101,0] rfl rfl fun a w F hS=>Za (wp_ret (Zm (Zg ?_)))
  refine ZA hfr hS rfl (.cl 103 true 2 rfl rfl (.tmp rfl .nil)) (.two (by rw [hg];first | exact .aggU rfl rfl | exact .aggLe rfl ⟨PVLe.nilSl,PVLe.nilSl,trivial⟩) (.int (by rw [hg])))
 have k3:¬ c.kind=3:=by simpa using hc2
 refine wp_seq ?_
 refine Zb hS (qf (o_eql .t qi) r1 qz (qN rfl rfl qZ)) hB [32,7,5,4,3,2] [103,102,101,0] rfl rfl fun a w F hS=>Za ?_
 refine Zd hS rfl (fun hc3=>?_) (fun hc3=>?_)
 ·skip
  have hg:Z0 g c=ZaD g c.order:=by unfold Z0;rw [if_neg k1,if_neg k2,if_neg k3,if_pos (by simpa using hc3)]
  refine wp_seq ?_
  refine Zb hS (qe 2 101 r1 r1 (qg 4 102 r1 r1 (qf (oL true 2 102 .adr) r1 r1 (qf (oP (ZjP g c.order hs (by have:=hc.2;omega)) Tryz.func58 (Args.two (.pagg .t) (.pagg .t))) r2 qz (qf (o_extract .t rfl) r1 qz (qf (o_extract .t rfl) r1 qz (qf (oA 2 103 .is (.conv .t .agg)) r2 r1 (qN rfl rfl qZ)))))))) hB [5,4] [103,102,101,0] rfl rfl fun a w F hS=>Za (wp_ret (Zm (Zg ?_)))
  refine ZA hfr hS rfl (.cl 103 true 2 rfl rfl (.tmp rfl .nil)) (.two (by rw [hg];first | exact .aggU rfl rfl | exact .aggLe rfl ⟨PVLe.nilSl,PVLe.nilSl,trivial⟩) (.int (by rw [hg])))
 have k4:¬ c.kind=4:=by simpa using hc3
 refine wp_seq ?_
 refine Zb hS (qf (o_eql .t qi) r1 qz (qN rfl rfl qZ)) hB [40,5,4,3,2] [103,102,101,0] rfl rfl fun a w F hS=>Za ?_
 refine Zd hS rfl (fun hc4=>?_) (fun hc4=>?_)
 ·skip
  have hg:Z0 g c=ZdS g c.key c.id c.place:=by unfold Z0;rw [if_neg k1,if_neg k2,if_neg k3,if_neg k4,if_pos (by simpa using hc4)]
  refine wp_seq ?_
  refine Zb hS (qe 2 101 r1 r1 (qg 6 102 r1 r1 (qa 102 r1 r1 (qg 7 102 r1 r1 (qa 102 r1 r1 (qg 8 102 r1 r1 (qa 102 r1 r1 (qf (oP (ZnC g c.key c.id c.place hs) Tryz.func59 (Args.four (.pagg .t) .t .t .t)) r4 qz (qf (o_extract .t rfl) r1 qz (qf (o_extract .t rfl) r1 qz (qf (oA 2 103 .is (.conv .t .agg)) r2 r1 (qN rfl rfl qZ)))))))))))) hB [5,4] [103,102,101,0] rfl rfl fun a w F hS=>Za (wp_ret (Zm (Zg ?_)))
  refine ZA hfr hS rfl (.cl 103 true 2 rfl rfl (.tmp rfl .nil)) (.two (by rw [hg];first | exact .aggU rfl rfl | exact .aggLe rfl ⟨PVLe.nilSl,PVLe.nilSl,trivial⟩) (.int (by rw [hg])))
 have k5:¬ c.kind=5:=by simpa using hc4
 have hg:Z0 g c=(zeroH,11):=by unfold Z0;rw [if_neg k1,if_neg k2,if_neg k3,if_neg k4,if_neg k5]
 refine wp_skip (Zi (Za (wp_seq ?_)))
 refine Zb hS (qf (oB [] [.slice none 0 0,.slice none 0 0] [(0,1),(1,1)] .nil) trivial qz (qs 2 103 r2 r1 (qI qZ))) hB [5,4] [103,102,101,0] rfl rfl fun a w F hS=>Za (wp_ret ?_)
 refine ZA hfr hS rfl (.cl 103 true 2 rfl rfl (.tmp rfl .nil)) (.two (by rw [hg];first | exact .aggU rfl rfl | exact .aggLe rfl ⟨PVLe.nilSl,PVLe.nilSl,trivial⟩) (.int (by rw [hg])))
theorem ZhS (g:Zn) (c:CmdD) (hs:ZaK g) (hc:Zac c):FnP Tryz.prog 26 [.agg (Zj g),.agg (rCmd c)] (.tup [.agg (Zj (Z0 g c).1),.int .i64 (Z0 g c).2]):=by
 refine FnP.mk Tryz.func26 rfl Tryz.ntmps26 rfl ?_
 intro B a w F hB hfr hS
 refine wp_seq ?_
 refine Zc hS (qx 101 r1 (qx 102 r1 (qf (oH [.slice none 0 0,.slice none 0 0] 103) trivial qz (qI qZ)))) hB [5,4,3,2] [103,102,101,0] (fun _=>rfl) (fun _=>rfl) fun τ a w F hS=>?_
 try dsimp only [RS.sub,SF.sub,CF.sub,csub,Anc.sub,List.map,zCF,Zj,rTx,Zs,Zv,rInt,rOp,rCmd] at hS
 generalize τ 2=v2 at hS
 generalize τ 3=v3 at hS
 generalize τ 4=v4 at hS
 refine Za (wp_seq (wp_seq ?_))
 refine Zb hS (qg 0 102 r1 r1 (qa 102 r1 r1 qZ)) hB [7,5,4,3,2] [103,102,101,0] rfl rfl fun a w F hS=>Za (wp_block (wp_seq ?_))
 refine Zb hS (qf (o_eql .t qi) r1 qz (qN rfl rfl qZ)) hB [8,7,5,4,3,2] [103,102,101,0] rfl rfl fun a w F hS=>Za ?_
 refine Zd hS rfl (fun hc0=>?_) (fun hc0=>?_)
 ·skip
  have hg:Z0 g c=Z6 g c.tx:=by unfold Z0;rw [if_pos (by simpa using hc0)]
  refine wp_seq ?_
  refine Zb hS (qe 2 101 r1 r1 (qg 1 102 r1 r1 (qf (oL true 3 102 .adr) r1 r1 (qf (oP (Zig g c.tx hs (by have:=hc.1;omega)) Tryz.func60 (Args.two (.pagg .t) (.pagg .t))) r2 qz (qf (o_extract .t rfl) r1 qz (qf (o_extract .t rfl) r1 qz (qf (oA 2 103 .is (.conv .t .agg)) r2 r1 (qN rfl rfl qZ)))))))) hB [5,4] [103,102,101,0] rfl rfl fun a w F hS=>Za (wp_ret (Zm (Zg ?_)))
  refine ZA hfr hS rfl (.cl 103 true 2 rfl rfl (.tmp rfl .nil)) (.two (by rw [hg];first | exact .aggU rfl rfl | exact .aggLe rfl ⟨PVLe.nilSl,PVLe.nilSl,trivial⟩) (.int (by rw [hg])))
 have k1:¬ c.kind=1:=by simpa using hc0
 refine wp_seq ?_
 refine Zb hS (qf (o_eql .t qi) r1 qz (qN rfl rfl qZ)) hB [16,7,5,4,3,2] [103,102,101,0] rfl rfl fun a w F hS=>Za ?_
 refine Zd hS rfl (fun hc1=>?_) (fun hc1=>?_)
 ·skip
  have hg:Z0 g c=Zar g c.tx:=by unfold Z0;rw [if_neg k1,if_pos (by simpa using hc1)]
  refine wp_seq ?_
  refine Zb hS (qe 2 101 r1 r1 (qg 1 102 r1 r1 (qf (oL true 3 102 .adr) r1 r1 (qf (oP (Zj5 g c.tx hs (by have:=hc.1;omega)) Tryz.func61 (Args.two (.pagg .t) (.pagg .t))) r2 qz (qf (o_extract .t rfl) r1 qz (qf (o_extract .t rfl) r1 qz (qf (oA 2 103 .is (.conv .t .agg)) r2 r1 (qN rfl rfl qZ)))))))) hB [5,4] [103,102,101,0] rfl rfl fun a w F hS=>Za (wp_ret (Zm (Zg ?_)))
  refine ZA hfr hS rfl (.cl 103 true 2 rfl rfl (.tmp rfl .nil)) (.two (by rw [hg];first | exact .aggU rfl rfl | exact .aggLe rfl ⟨PVLe.nilSl,PVLe.nilSl,trivial⟩) (.int (by rw [hg])))
 have k2:¬ c.kind=2:=by simpa using hc1
 refine wp_seq ?_
 refine Zb hS (qf (o_eql .t qi) r1 qz (qN rfl rfl qZ)) hB [24,7,5,4,3,2] [103,102,101,0] rfl rfl fun a w F hS=>Za ?_
 refine Zd hS rfl (fun hc2=>?_) (fun hc2=>?_)
 ·skip
  have hg:Z0 g c=ZY g c.id:=by unfold Z0;rw [if_neg k1,if_neg k2,if_pos (by simpa using hc2)]
  refine wp_seq ?_
  refine Zb hS (qe 2 101 r1 r1 (qg 7 102 r1 r1 (qa 102 r1 r1 (qf (oP (Zia g c.id hs) Tryz.func62 (Args.two (.pagg .t) .t)) r2 qz (qf (o_extract .t rfl) r1 qz (qf (o_extract .t rfl) r1 qz (qf (oA 2 103 .is (.conv .t .agg)) r2 r1 (qN rfl rfl qZ)))))))) hB [5,4] [103,102,101,0] rfl rfl fun a w F hS=>Za (wp_ret (Zm (Zg ?_)))
  refine ZA hfr hS rfl (.cl 103 true 2 rfl rfl (.tmp rfl .nil)) (.two (by rw [hg];first | exact .aggU rfl rfl | exact .aggLe rfl ⟨PVLe.nilSl,PVLe.nilSl,trivial⟩) (.int (by rw [hg])))
 have k3:¬ c.kind=3:=by simpa using hc2
 refine wp_seq ?_
 refine Zb hS (qf (o_eql .t qi) r1 qz (qN rfl rfl qZ)) hB [32,7,5,4,3,2] [103,102,101,0] rfl rfl fun a w F hS=>Za ?_
 refine Zd hS rfl (fun hc3=>?_) (fun hc3=>?_)
 ·skip
  have hg:Z0 g c=ZaD g c.order:=by unfold Z0;rw [if_neg k1,if_neg k2,if_neg k3,if_pos (by simpa using hc3)]
  refine wp_seq ?_
  refine Zb hS (qe 2 101 r1 r1 (qg 4 102 r1 r1 (qf (oL true 2 102 .adr) r1 r1 (qf (oP (ZgW g c.order hs (by have:=hc.2;omega)) Tryz.func63 (Args.two (.pagg .t) (.pagg .t))) r2 qz (qf (o_extract .t rfl) r1 qz (qf (o_extract .t rfl) r1 qz (qf (oA 2 103 .is (.conv .t .agg)) r2 r1 (qN rfl rfl qZ)))))))) hB [5,4] [103,102,101,0] rfl rfl fun a w F hS=>Za (wp_ret (Zm (Zg ?_)))
  refine ZA hfr hS rfl (.cl 103 true 2 rfl rfl (.tmp rfl .nil)) (.two (by rw [hg];first | exact .aggU rfl rfl | exact .aggLe rfl ⟨PVLe.nilSl,PVLe.nilSl,trivial⟩) (.int (by rw [hg])))
 have k4:¬ c.kind=4:=by simpa using hc3
 refine wp_seq ?_
 refine Zb hS (qf (o_eql .t qi) r1 qz (qN rfl rfl qZ)) hB [40,5,4,3,2] [103,102,101,0] rfl rfl fun a w F hS=>Za ?_
 refine Zd hS rfl (fun hc4=>?_) (fun hc4=>?_)
 ·skip
  have hg:Z0 g c=ZdS g c.key c.id c.place:=by unfold Z0;rw [if_neg k1,if_neg k2,if_neg k3,if_neg k4,if_pos (by simpa using hc4)]
  refine wp_seq ?_
  refine Zb hS (qe 2 101 r1 r1 (qg 6 102 r1 r1 (qa 102 r1 r1 (qg 7 102 r1 r1 (qa 102 r1 r1 (qg 8 102 r1 r1 (qa 102 r1 r1 (qf (oP (Zk1 g c.key c.id c.place hs) Tryz.func64 (Args.four (.pagg .t) .t .t .t)) r4 qz (qf (o_extract .t rfl) r1 qz (qf (o_extract .t rfl) r1 qz (qf (oA 2 103 .is (.conv .t .agg)) r2 r1 (qN rfl rfl qZ)))))))))))) hB [5,4] [103,102,101,0] rfl rfl fun a w F hS=>Za (wp_ret (Zm (Zg ?_)))
  refine ZA hfr hS rfl (.cl 103 true 2 rfl rfl (.tmp rfl .nil)) (.two (by rw [hg];first | exact .aggU rfl rfl | exact .aggLe rfl ⟨PVLe.nilSl,PVLe.nilSl,trivial⟩) (.int (by rw [hg])))
 have k5:¬ c.kind=5:=by simpa using hc4
 have hg:Z0 g c=(zeroH,11):=by unfold Z0;rw [if_neg k1,if_neg k2,if_neg k3,if_neg k4,if_neg k5]
 refine wp_skip (Zi (Za (wp_seq ?_)))
 refine Zb hS (qf (oB [] [.slice none 0 0,.slice none 0 0] [(0,1),(1,1)] .nil) trivial qz (qs 2 103 r2 r1 (qI qZ))) hB [5,4] [103,102,101,0] rfl rfl fun a w F hS=>Za (wp_ret ?_)
 refine ZA hfr hS rfl (.cl 103 true 2 rfl rfl (.tmp rfl .nil)) (.two (by rw [hg];first | exact .aggU rfl rfl | exact .aggLe rfl ⟨PVLe.nilSl,PVLe.nilSl,trivial⟩) (.int (by rw [hg])))
theorem ZhY (g:Zn) (l:List CmdD) (n:Nat) (hp:ZcJ n g) (hnl:n+l.length≤166) (hlt:∀ c ∈ l,Zac c):FnP Tryz.prog 12 [.agg (Zj g),.sl rCmd l] (.tup [.agg (Zj (ZQ g l 0).1),.int .i64 (((ZQ g l 0).2.1:Nat):Int),.int .i64 (ZQ g l 0).2.2]):=by
 refine FnP.mk Tryz.func12 rfl Tryz.ntmps12 rfl ?_
 intro B a w F hB hfr hS
 refine wp_seq ?_
 refine Zc hS (qx 101 r1 (qf (oH [.slice none 0 0,.slice none 0 0] 102) trivial qz (qI (qI qZ)))) hB [6,5,4,2,1] [102,101,0] (fun _=>rfl) (fun _=>rfl) fun τ a w F hS=>?_
 try dsimp only [RS.sub,SF.sub,CF.sub,csub,Anc.sub,List.map,zCF,Zj,rTx,Zs,Zv,rInt,rOp,rCmd,ZC,Zaj,ZH,Zu] at hS
 generalize τ 2=v2 at hS
 generalize τ 4=v4 at hS
 refine Za (wp_seq (wp_seq ?_))
 refine Zb hS (qM rfl rfl (qu Tryz.underlying26 r1 (qJ qZ))) hB [13,12,11,6,5,4,2,1] [102,101,0] rfl rfl fun a w F hS=>Za (wp_block ?_)
 refine Zl (σ:=(Nat)×(Zn)) [1,2,4,5,6,11,12] [0,102] (fun s=>[(13,.pv (.int .i64 (s.1:Int)))]) (fun s=>[(101,.pt (.val v2) 25 [.pv (.sl rTx (s.2).txs),.pv (.sl Zs (s.2).orders)])]) (fun s=>s.1≤l.length∧(ZQ g l 0=ZQ s.2 (l.drop s.1) s.1∧ZcJ (n+s.1) s.2)) (fun s=>l.length - s.1) ((0),(g)) hS ⟨rfl,rfl,rfl,rfl,rfl,rfl,rfl,rfl,trivial⟩ ⟨rfl,rfl,rfl,trivial⟩ ⟨Nat.zero_le _,⟨rfl,hp⟩⟩ ?_
 clear hS;intro s a w F hC hS
 obtain ⟨i,gg⟩:=s
 try dsimp only at hC
 obtain ⟨F,hS⟩:=hS.nm [13,12,11,6,5,4,2,1] [102,101,0] rfl rfl
 try dsimp only at hS
 obtain ⟨hi,hq⟩:=hC
 obtain ⟨hpc,hfit⟩:=hq
 refine wp_seq ?_
 refine Zb hS (qL r2) hB [14,13,12,11,6,5,4,2,1] [102,101,0] rfl rfl fun a w F hS=>Za (wp_seq ?_)
 refine Zd hS rfl (fun hc0=>?_) (fun hc0=>?_)
 ·skip
  have hil:i<l.length:=by simp at hc0;omega
  have hio:=hil
  refine wp_skip (Za (wp_seq (wp_block (wp_seq ?_))))
  refine Zc hS (qM rfl rfl (qy 10 Tryz.underlying26 r2 (qf (oR true 10 .t) r1 qz (qf (oH [.int .i64 0,.int .i64 0,.bool false,.slice none 0 0,.int .i64 0,.slice none 0 0,.int .i64 0,.int .i64 0,.int .i64 0,.int .i64 0] 103) trivial qz (qN rfl rfl (qS 10 103 r2 r1 qZ)))))) hB [13,12,11,8,7,6,5,4,2,1] [103,102,101,0] (fun _=>rfl) (fun _=>rfl) fun τ a w F hS=>?_
  try dsimp only [RS.sub,SF.sub,CF.sub,csub,Anc.sub,List.map,Zf,xL,xM,Nat.reduceAdd,xD,xE,xT,xU,xC,xN,zCF,ldSF,Zj,rTx,Zs,Zv,rInt,rOp,rCmd,ZC,Zaj,ZH,Zu] at hS
  generalize τ 8=v8 at hS
  try simp only [Int.toNat_natCast] at hS
  refine Za (wp_seq ?_)
  refine Zc hS (qe 2 101 r1 r1 (qe 10 103 r1 r1 (qf (oP (ZkV gg (Go.Gm.nth l i) hfit.1 (hlt _ (ZM hio))) Tryz.func25 (Args.two (.pagg .t) (.pagg .t))) r2 qz (qM rfl rfl (qf (o_extract .t rfl) r1 qz (qf (o_extract .t rfl) r1 qz (qf (oH [.slice none 0 0,.slice none 0 0] 104) trivial qz (qf (oA 2 104 .same (.conv .t .agg)) r2 r1 (qN rfl rfl qZ))))))))) hB [13,12,11,10,9,7,6,5,4,2,1] [104,103,102,101,0] (fun _=>rfl) (fun _=>rfl) fun τ a w F hS=>?_
  try dsimp only [RS.sub,SF.sub,CF.sub,csub,Anc.sub,List.map,Zf,xL,xM,Nat.reduceAdd,xD,xE,xT,xU,xC,xN,zCF,ldSF,Zj,rTx,Zs,Zv,rInt,rOp,rCmd,ZC,Zaj,ZH,Zu] at hS
  generalize τ 9=v9 at hS
  refine Za (wp_seq (wp_seq ?_))
  refine Zb hS (qM rfl rfl (qf (o_neq .t qi) r1 qz qZ)) hB [25,13,12,11,10,9,7,6,5,4,2,1] [104,103,102,101,0] rfl rfl fun a w F hS=>Za ?_
  refine Zd hS rfl (fun hc1=>?_) (fun hc1=>?_)
  ·skip
   have hg:=ZdH hpc hio (by simpa using hc1)
   refine wp_seq ?_
   refine Zb hS (qf (oB [] [.slice none 0 0,.slice none 0 0] [(0,1),(1,1)] .nil) trivial qz (qM rfl rfl (qM rfl rfl (qs 2 102 r2 r1 (qN rfl rfl (qN rfl rfl qZ)))))) hB [13,12,11,9,6,5,4,2,1] [104,103,102,101,0] rfl rfl fun a w F hS=>Za (wp_ret (Zg (Zm (Zg (Zg (Zm (Zg ?_)))))))
   refine ZA hfr hS rfl (.cl 102 true 2 rfl rfl (.tmp rfl (.tmp rfl .nil))) (.three (by rw [hg];first | exact .aggU rfl rfl | exact .aggLe rfl ⟨PVLe.nilSl,PVLe.nilSl,trivial⟩) (.int (by rw [hg])) (.int (by rw [hg])))
  have hok:¬ (Z0 gg (Go.Gm.nth l i)).2≠0:=by simpa using hc1
  refine wp_skip (Za ?_)
  refine Zb hS (qe 2 104 r1 r1 (qs 2 101 r2 r1 qZ)) hB [13,12,11,6,5,4,2,1] [104,103,102,101,0] rfl rfl fun a w F hS=>Zi (Za ?_)
  refine Zb hS (qp r1 (qM rfl rfl qZ)) hB [13,12,11,6,5,4,2,1] [104,103,102,101,0] rfl rfl fun a w F hS=>Za ?_
  replace hS:=hS.ent (i:=13) (s':=.pv (.int .i64 ((i+1:Nat):Int))) rfl (.int (Ze (by omega)))
  obtain ⟨F,hS⟩:=hS.nm [12,11,6,5,4,2,1,13] [102,0,101] rfl rfl
  exact ⟨((i+1),((Z0 gg (Go.Gm.nth l i)).1)),F,⟨by omega,⟨Zcy hpc hio hok,hfit.edit (by omega) (hlt _ (ZM hio)) hok⟩⟩,hS,by omega⟩
 have hil:i=l.length:=by simp at hc0;omega
 have hg:=Zdw hpc hil
 refine wp_exit (Zk (Zk (Zq (Za (wp_seq ?_)))))
 refine Zb hS (qe 2 101 r1 r1 (qf (oP (ZiH gg hfit.1) Tryz.func39 (Args.one (.pagg .t))) r1 qz (qM rfl rfl (qu Tryz.underlying26 r1 (qf (oA 2 102 .is (.conv .t .agg)) r2 r1 (qN rfl rfl (qI qZ))))))) hB [6,5,4] [102,101,0] rfl rfl fun a w F hS=>Za (wp_ret ?_)
 refine ZA hfr hS rfl (.cl 102 true 2 rfl rfl (.tmp rfl (.tmp rfl .nil))) (.three (by rw [hg];first | exact .aggU rfl rfl | exact .aggLe rfl ⟨PVLe.nilSl,PVLe.nilSl,trivial⟩) (.int (by rw [hg])) (.int (by rw [hg])))
theorem Zmk (v:Value) (g:Zn) (l:List CmdD) (n:Nat) (hp:ZcJ n g) (hnl:n+l.length≤166) (hlt:∀ c ∈ l,Zac c):FnG Tryz.prog 12 1 [.agg (Zj g),.is v] [Zw 45 10 rCmd l v] (.tup [.agg (Zj (ZQ g l 0).1),.int .i64 (((ZQ g l 0).2.1:Nat):Int),.int .i64 (ZQ g l 0).2.2]) (fun _=>[Zw 45 10 rCmd l v]):=by
 refine FnG.mk Tryz.func12 rfl Tryz.ntmps12 rfl (by kernel_rfl) ?_
 intro B F0 a w F hB hG hS
 have hS:=hS.turn 1 rfl (r':=RS.ob (.val v) (Zw 45 10 rCmd l)) (fun _ _ _ _ h=>h)
 obtain ⟨F,hS⟩:=hS.nm [1,0] [1,0] rfl rfl
 refine wp_seq ?_
 refine Zc hS (qx 101 r1 (qf (oH [.slice none 0 0,.slice none 0 0] 102) trivial qz (qI (qI qZ)))) hB [6,5,4,2,1] [102,101,1,0] (fun _=>rfl) (fun _=>rfl) fun τ a w F hS=>?_
 try dsimp only [RS.sub,SF.sub,CF.sub,csub,Anc.sub,List.map,zCF,Zj,rTx,Zs,Zv,rInt,rOp,rCmd,ZC,Zaj,ZH,Zu] at hS
 generalize τ 2=v2 at hS
 generalize τ 4=v4 at hS
 refine Za (wp_seq (wp_seq ?_))
 refine Zb hS (qM rfl rfl (qf (Z4 1 Tryz.underlying26 .is) r1 r1 (qJ qZ))) hB [13,12,11,6,5,4,2,1] [102,101,1,0] rfl rfl fun a w F hS=>Za (wp_block ?_)
 refine Zl (σ:=(Nat)×(Zn)) [1,2,4,5,6,11,12] [0,1,102] (fun s=>[(13,.pv (.int .i64 (s.1:Int)))]) (fun s=>[(101,.pt (.val v2) 25 [.pv (.sl rTx (s.2).txs),.pv (.sl Zs (s.2).orders)])]) (fun s=>s.1≤l.length∧(ZQ g l 0=ZQ s.2 (l.drop s.1) s.1∧ZcJ (n+s.1) s.2)) (fun s=>l.length - s.1) ((0),(g)) hS ⟨rfl,rfl,rfl,rfl,rfl,rfl,rfl,rfl,trivial⟩ ⟨rfl,rfl,rfl,rfl,trivial⟩ ⟨Nat.zero_le _,⟨rfl,hp⟩⟩ ?_
 clear hS;intro s a w F hC hS
 obtain ⟨i,gg⟩:=s
 try dsimp only at hC
 obtain ⟨F,hS⟩:=hS.nm [13,12,11,6,5,4,2,1] [102,101,1,0] rfl rfl
 try dsimp only at hS
 obtain ⟨hi,hq⟩:=hC
 obtain ⟨hpc,hfit⟩:=hq
 refine wp_seq ?_
 refine Zb hS (qL r2) hB [14,13,12,11,6,5,4,2,1] [102,101,1,0] rfl rfl fun a w F hS=>Za (wp_seq ?_)
 refine Zd hS rfl (fun hc0=>?_) (fun hc0=>?_)
 ·skip
  have hil:i<l.length:=by simp at hc0;omega
  have hio:=hil
  refine wp_skip (Za (wp_seq (wp_block (wp_seq ?_))))
  refine Zc hS (qM rfl rfl (qf (o_indexAddr_row (sz:=10) 1 (.mk Tryz.underlying26 (by kernel_rfl)) .is .t (by omega) (by omega) (by rfl)) r2 r1 (qf (Zah (ag:=true) (sz':=10) (sz:=10) 1 .t (by intro x;rfl) (by omega) (by kernel_rfl) (by kernel_rfl) (by kernel_rfl)) r1 r1 (qf (oH [.int .i64 0,.int .i64 0,.bool false,.slice none 0 0,.int .i64 0,.slice none 0 0,.int .i64 0,.int .i64 0,.int .i64 0,.int .i64 0] 103) trivial qz (qN rfl rfl (qS 10 103 r2 r1 qZ)))))) hB [13,12,11,8,7,6,5,4,2,1] [103,102,101,1,0] (fun _=>rfl) (fun _=>rfl) fun τ a w F hS=>?_
  try dsimp only [RS.sub,SF.sub,CF.sub,csub,Anc.sub,List.map,Zf,xL,xM,Nat.reduceAdd,xD,xE,xT,xU,xC,xN,zCF,ldSF,Zj,rTx,Zs,Zv,rInt,rOp,rCmd,ZC,Zaj,ZH,Zu] at hS
  generalize τ 8=v8 at hS
  try simp only [Int.toNat_natCast] at hS
  refine Za (wp_seq ?_)
  refine Zc hS (qe 2 101 r1 r1 (qe 10 103 r1 r1 (qf (oP (ZkV gg (Go.Gm.nth l i) hfit.1 (hlt _ (ZM hio))) Tryz.func25 (Args.two (.pagg .t) (.pagg .t))) r2 qz (qM rfl rfl (qf (o_extract .t rfl) r1 qz (qf (o_extract .t rfl) r1 qz (qf (oH [.slice none 0 0,.slice none 0 0] 104) trivial qz (qf (oA 2 104 .same (.conv .t .agg)) r2 r1 (qN rfl rfl qZ))))))))) hB [13,12,11,10,9,7,6,5,4,2,1] [104,103,102,101,1,0] (fun _=>rfl) (fun _=>rfl) fun τ a w F hS=>?_
  try dsimp only [RS.sub,SF.sub,CF.sub,csub,Anc.sub,List.map,Zf,xL,xM,Nat.reduceAdd,xD,xE,xT,xU,xC,xN,zCF,ldSF,Zj,rTx,Zs,Zv,rInt,rOp,rCmd,ZC,Zaj,ZH,Zu] at hS
  generalize τ 9=v9 at hS
  refine Za (wp_seq (wp_seq ?_))
  refine Zb hS (qM rfl rfl (qf (o_neq .t qi) r1 qz qZ)) hB [25,13,12,11,10,9,7,6,5,4,2,1] [104,103,102,101,1,0] rfl rfl fun a w F hS=>Za ?_
  refine Zd hS rfl (fun hc1=>?_) (fun hc1=>?_)
  ·skip
   have hg:=ZdH hpc hio (by simpa using hc1)
   refine wp_seq ?_
   refine Zb hS (qf (oB [] [.slice none 0 0,.slice none 0 0] [(0,1),(1,1)] .nil) trivial qz (qM rfl rfl (qM rfl rfl (qs 2 102 r2 r1 (qN rfl rfl (qN rfl rfl qZ)))))) hB [13,12,11,9,6,5,4,2,1] [104,103,102,101,1,0] rfl rfl fun a w F hS=>Za (wp_ret (Zg (Zm (Zg (Zg (Zm (Zg ?_)))))))
   have hS:=hS.turn 1 rfl (r':=RS.hp (Zw 45 10 rCmd l v)) (fun _ _ _ _ h=>h)
   refine ZhN hG hS rfl (.cl 102 true 2 rfl rfl (.tmp rfl (.tmp rfl .nil))) (.three (by rw [hg];first | exact .aggU rfl rfl | exact .aggLe rfl ⟨PVLe.nilSl,PVLe.nilSl,trivial⟩) (.int (by rw [hg])) (.int (by rw [hg]))) rfl
  have hok:¬ (Z0 gg (Go.Gm.nth l i)).2≠0:=by simpa using hc1
  refine wp_skip (Za ?_)
  refine Zb hS (qe 2 104 r1 r1 (qs 2 101 r2 r1 qZ)) hB [13,12,11,6,5,4,2,1] [104,103,102,101,1,0] rfl rfl fun a w F hS=>Zi (Za ?_)
  refine Zb hS (qp r1 (qM rfl rfl qZ)) hB [13,12,11,6,5,4,2,1] [104,103,102,101,1,0] rfl rfl fun a w F hS=>Za ?_
  replace hS:=hS.ent (i:=13) (s':=.pv (.int .i64 ((i+1:Nat):Int))) rfl (.int (Ze (by omega)))
  obtain ⟨F,hS⟩:=hS.nm [12,11,6,5,4,2,1,13] [102,1,0,101] rfl rfl
  exact ⟨((i+1),((Z0 gg (Go.Gm.nth l i)).1)),F,⟨by omega,⟨Zcy hpc hio hok,hfit.edit (by omega) (hlt _ (ZM hio)) hok⟩⟩,hS,by omega⟩
 have hil:i=l.length:=by simp at hc0;omega
 have hg:=Zdw hpc hil
 refine wp_exit (Zk (Zk (Zq (Za (wp_seq ?_)))))
 refine Zb hS (qe 2 101 r1 r1 (qf (oP (ZiH gg hfit.1) Tryz.func39 (Args.one (.pagg .t))) r1 qz (qM rfl rfl (qf (Z4 1 Tryz.underlying26 .is) r1 r1 (qf (oA 2 102 .is (.conv .t .agg)) r2 r1 (qN rfl rfl (qI qZ))))))) hB [6,5,4] [102,101,1,0] rfl rfl fun a w F hS=>Za (wp_ret ?_)
 have hS:=hS.turn 1 rfl (r':=RS.hp (Zw 45 10 rCmd l v)) (fun _ _ _ _ h=>h)
 refine ZhN hG hS rfl (.cl 102 true 2 rfl rfl (.tmp rfl (.tmp rfl .nil))) (.three (by rw [hg];first | exact .aggU rfl rfl | exact .aggLe rfl ⟨PVLe.nilSl,PVLe.nilSl,trivial⟩) (.int (by rw [hg])) (.int (by rw [hg]))) rfl
theorem Zkk (g:Zn) (l:List CmdD) (n:Nat) (hp:ZcJ n g) (hnl:n+l.length≤166) (hlt:∀ c ∈ l,Zac c):FnP Tryz.prog 13 [.agg (Zj g),.sl rCmd l] (.tup [.agg (Zj (ZQ g l 0).1),.int .i64 (((ZQ g l 0).2.1:Nat):Int),.int .i64 (ZQ g l 0).2.2]):=by
 refine FnP.mk Tryz.func13 rfl Tryz.ntmps13 rfl ?_
 intro B a w F hB hfr hS
 refine wp_seq ?_
 refine Zc hS (qx 101 r1 (qf (oH [.slice none 0 0,.slice none 0 0] 102) trivial qz (qI (qI qZ)))) hB [6,5,4,2,1] [102,101,0] (fun _=>rfl) (fun _=>rfl) fun τ a w F hS=>?_
 try dsimp only [RS.sub,SF.sub,CF.sub,csub,Anc.sub,List.map,zCF,Zj,rTx,Zs,Zv,rInt,rOp,rCmd,ZC,Zaj,ZH,Zu] at hS
 generalize τ 2=v2 at hS
 generalize τ 4=v4 at hS
 refine Za (wp_seq (wp_seq ?_))
 refine Zb hS (qM rfl rfl (qu Tryz.underlying26 r1 (qJ qZ))) hB [13,12,11,6,5,4,2,1] [102,101,0] rfl rfl fun a w F hS=>Za (wp_block ?_)
 refine Zl (σ:=(Nat)×(Zn)) [1,2,4,5,6,11,12] [0,102] (fun s=>[(13,.pv (.int .i64 (s.1:Int)))]) (fun s=>[(101,.pt (.val v2) 25 [.pv (.sl rTx (s.2).txs),.pv (.sl Zs (s.2).orders)])]) (fun s=>s.1≤l.length∧(ZQ g l 0=ZQ s.2 (l.drop s.1) s.1∧ZcJ (n+s.1) s.2)) (fun s=>l.length - s.1) ((0),(g)) hS ⟨rfl,rfl,rfl,rfl,rfl,rfl,rfl,rfl,trivial⟩ ⟨rfl,rfl,rfl,trivial⟩ ⟨Nat.zero_le _,⟨rfl,hp⟩⟩ ?_
 clear hS;intro s a w F hC hS
 obtain ⟨i,gg⟩:=s
 try dsimp only at hC
 obtain ⟨F,hS⟩:=hS.nm [13,12,11,6,5,4,2,1] [102,101,0] rfl rfl
 try dsimp only at hS
 obtain ⟨hi,hq⟩:=hC
 obtain ⟨hpc,hfit⟩:=hq
 refine wp_seq ?_
 refine Zb hS (qL r2) hB [14,13,12,11,6,5,4,2,1] [102,101,0] rfl rfl fun a w F hS=>Za (wp_seq ?_)
 refine Zd hS rfl (fun hc0=>?_) (fun hc0=>?_)
 ·skip
  have hil:i<l.length:=by simp at hc0;omega
  have hio:=hil
  refine wp_skip (Za (wp_seq (wp_block (wp_seq ?_))))
  refine Zc hS (qM rfl rfl (qy 10 Tryz.underlying26 r2 (qf (oR true 10 .t) r1 qz (qf (oH [.int .i64 0,.int .i64 0,.bool false,.slice none 0 0,.int .i64 0,.slice none 0 0,.int .i64 0,.int .i64 0,.int .i64 0,.int .i64 0] 103) trivial qz (qN rfl rfl (qS 10 103 r2 r1 qZ)))))) hB [13,12,11,8,7,6,5,4,2,1] [103,102,101,0] (fun _=>rfl) (fun _=>rfl) fun τ a w F hS=>?_
  try dsimp only [RS.sub,SF.sub,CF.sub,csub,Anc.sub,List.map,Zf,xL,xM,Nat.reduceAdd,xD,xE,xT,xU,xC,xN,zCF,ldSF,Zj,rTx,Zs,Zv,rInt,rOp,rCmd,ZC,Zaj,ZH,Zu] at hS
  generalize τ 8=v8 at hS
  try simp only [Int.toNat_natCast] at hS
  refine Za (wp_seq ?_)
  refine Zc hS (qe 2 101 r1 r1 (qe 10 103 r1 r1 (qf (oP (ZhS gg (Go.Gm.nth l i) hfit.1 (hlt _ (ZM hio))) Tryz.func26 (Args.two (.pagg .t) (.pagg .t))) r2 qz (qM rfl rfl (qf (o_extract .t rfl) r1 qz (qf (o_extract .t rfl) r1 qz (qf (oH [.slice none 0 0,.slice none 0 0] 104) trivial qz (qf (oA 2 104 .same (.conv .t .agg)) r2 r1 (qN rfl rfl qZ))))))))) hB [13,12,11,10,9,7,6,5,4,2,1] [104,103,102,101,0] (fun _=>rfl) (fun _=>rfl) fun τ a w F hS=>?_
  try dsimp only [RS.sub,SF.sub,CF.sub,csub,Anc.sub,List.map,Zf,xL,xM,Nat.reduceAdd,xD,xE,xT,xU,xC,xN,zCF,ldSF,Zj,rTx,Zs,Zv,rInt,rOp,rCmd,ZC,Zaj,ZH,Zu] at hS
  generalize τ 9=v9 at hS
  refine Za (wp_seq (wp_seq ?_))
  refine Zb hS (qM rfl rfl (qf (o_neq .t qi) r1 qz qZ)) hB [25,13,12,11,10,9,7,6,5,4,2,1] [104,103,102,101,0] rfl rfl fun a w F hS=>Za ?_
  refine Zd hS rfl (fun hc1=>?_) (fun hc1=>?_)
  ·skip
   have hg:=ZdH hpc hio (by simpa using hc1)
   refine wp_seq ?_
   refine Zb hS (qf (oB [] [.slice none 0 0,.slice none 0 0] [(0,1),(1,1)] .nil) trivial qz (qM rfl rfl (qM rfl rfl (qs 2 102 r2 r1 (qN rfl rfl (qN rfl rfl qZ)))))) hB [13,12,11,9,6,5,4,2,1] [104,103,102,101,0] rfl rfl fun a w F hS=>Za (wp_ret (Zg (Zm (Zg (Zg (Zm (Zg ?_)))))))
   refine ZA hfr hS rfl (.cl 102 true 2 rfl rfl (.tmp rfl (.tmp rfl .nil))) (.three (by rw [hg];first | exact .aggU rfl rfl | exact .aggLe rfl ⟨PVLe.nilSl,PVLe.nilSl,trivial⟩) (.int (by rw [hg])) (.int (by rw [hg])))
  have hok:¬ (Z0 gg (Go.Gm.nth l i)).2≠0:=by simpa using hc1
  refine wp_skip (Za ?_)
  refine Zb hS (qe 2 104 r1 r1 (qs 2 101 r2 r1 qZ)) hB [13,12,11,6,5,4,2,1] [104,103,102,101,0] rfl rfl fun a w F hS=>Zi (Za ?_)
  refine Zb hS (qp r1 (qM rfl rfl qZ)) hB [13,12,11,6,5,4,2,1] [104,103,102,101,0] rfl rfl fun a w F hS=>Za ?_
  replace hS:=hS.ent (i:=13) (s':=.pv (.int .i64 ((i+1:Nat):Int))) rfl (.int (Ze (by omega)))
  obtain ⟨F,hS⟩:=hS.nm [12,11,6,5,4,2,1,13] [102,0,101] rfl rfl
  exact ⟨((i+1),((Z0 gg (Go.Gm.nth l i)).1)),F,⟨by omega,⟨Zcy hpc hio hok,hfit.edit (by omega) (hlt _ (ZM hio)) hok⟩⟩,hS,by omega⟩
 have hil:i=l.length:=by simp at hc0;omega
 have hg:=Zdw hpc hil
 refine wp_exit (Zk (Zk (Zq (Za (wp_seq ?_)))))
 refine Zb hS (qe 2 101 r1 r1 (qM rfl rfl (qu Tryz.underlying26 r1 (qs 2 102 r2 r1 (qN rfl rfl (qI qZ)))))) hB [6,5,4] [102,101,0] rfl rfl fun a w F hS=>Za (wp_ret ?_)
 refine ZA hfr hS rfl (.cl 102 true 2 rfl rfl (.tmp rfl (.tmp rfl .nil))) (.three (by rw [hg];first | exact .aggU rfl rfl | exact .aggLe rfl ⟨PVLe.nilSl,PVLe.nilSl,trivial⟩) (.int (by rw [hg])) (.int (by rw [hg])))
theorem Zj2 (v:Value) (g:Zn) (l:List CmdD) (n:Nat) (hp:ZcJ n g) (hnl:n+l.length≤166) (hlt:∀ c ∈ l,Zac c):FnG Tryz.prog 13 1 [.agg (Zj g),.is v] [Zw 45 10 rCmd l v] (.tup [.agg (Zj (ZQ g l 0).1),.int .i64 (((ZQ g l 0).2.1:Nat):Int),.int .i64 (ZQ g l 0).2.2]) (fun _=>[Zw 45 10 rCmd l v]):=by
 refine FnG.mk Tryz.func13 rfl Tryz.ntmps13 rfl (by kernel_rfl) ?_
 intro B F0 a w F hB hG hS
 have hS:=hS.turn 1 rfl (r':=RS.ob (.val v) (Zw 45 10 rCmd l)) (fun _ _ _ _ h=>h)
 obtain ⟨F,hS⟩:=hS.nm [1,0] [1,0] rfl rfl
 refine wp_seq ?_
 refine Zc hS (qx 101 r1 (qf (oH [.slice none 0 0,.slice none 0 0] 102) trivial qz (qI (qI qZ)))) hB [6,5,4,2,1] [102,101,1,0] (fun _=>rfl) (fun _=>rfl) fun τ a w F hS=>?_
 try dsimp only [RS.sub,SF.sub,CF.sub,csub,Anc.sub,List.map,zCF,Zj,rTx,Zs,Zv,rInt,rOp,rCmd,ZC,Zaj,ZH,Zu] at hS
 generalize τ 2=v2 at hS
 generalize τ 4=v4 at hS
 refine Za (wp_seq (wp_seq ?_))
 refine Zb hS (qM rfl rfl (qf (Z4 1 Tryz.underlying26 .is) r1 r1 (qJ qZ))) hB [13,12,11,6,5,4,2,1] [102,101,1,0] rfl rfl fun a w F hS=>Za (wp_block ?_)
 refine Zl (σ:=(Nat)×(Zn)) [1,2,4,5,6,11,12] [0,1,102] (fun s=>[(13,.pv (.int .i64 (s.1:Int)))]) (fun s=>[(101,.pt (.val v2) 25 [.pv (.sl rTx (s.2).txs),.pv (.sl Zs (s.2).orders)])]) (fun s=>s.1≤l.length∧(ZQ g l 0=ZQ s.2 (l.drop s.1) s.1∧ZcJ (n+s.1) s.2)) (fun s=>l.length - s.1) ((0),(g)) hS ⟨rfl,rfl,rfl,rfl,rfl,rfl,rfl,rfl,trivial⟩ ⟨rfl,rfl,rfl,rfl,trivial⟩ ⟨Nat.zero_le _,⟨rfl,hp⟩⟩ ?_
 clear hS;intro s a w F hC hS
 obtain ⟨i,gg⟩:=s
 try dsimp only at hC
 obtain ⟨F,hS⟩:=hS.nm [13,12,11,6,5,4,2,1] [102,101,1,0] rfl rfl
 try dsimp only at hS
 obtain ⟨hi,hq⟩:=hC
 obtain ⟨hpc,hfit⟩:=hq
 refine wp_seq ?_
 refine Zb hS (qL r2) hB [14,13,12,11,6,5,4,2,1] [102,101,1,0] rfl rfl fun a w F hS=>Za (wp_seq ?_)
 refine Zd hS rfl (fun hc0=>?_) (fun hc0=>?_)
 ·skip
  have hil:i<l.length:=by simp at hc0;omega
  have hio:=hil
  refine wp_skip (Za (wp_seq (wp_block (wp_seq ?_))))
  refine Zc hS (qM rfl rfl (qf (o_indexAddr_row (sz:=10) 1 (.mk Tryz.underlying26 (by kernel_rfl)) .is .t (by omega) (by omega) (by rfl)) r2 r1 (qf (Zah (ag:=true) (sz':=10) (sz:=10) 1 .t (by intro x;rfl) (by omega) (by kernel_rfl) (by kernel_rfl) (by kernel_rfl)) r1 r1 (qf (oH [.int .i64 0,.int .i64 0,.bool false,.slice none 0 0,.int .i64 0,.slice none 0 0,.int .i64 0,.int .i64 0,.int .i64 0,.int .i64 0] 103) trivial qz (qN rfl rfl (qS 10 103 r2 r1 qZ)))))) hB [13,12,11,8,7,6,5,4,2,1] [103,102,101,1,0] (fun _=>rfl) (fun _=>rfl) fun τ a w F hS=>?_
  try dsimp only [RS.sub,SF.sub,CF.sub,csub,Anc.sub,List.map,Zf,xL,xM,Nat.reduceAdd,xD,xE,xT,xU,xC,xN,zCF,ldSF,Zj,rTx,Zs,Zv,rInt,rOp,rCmd,ZC,Zaj,ZH,Zu] at hS
  generalize τ 8=v8 at hS
  try simp only [Int.toNat_natCast] at hS
  refine Za (wp_seq ?_)
  refine Zc hS (qe 2 101 r1 r1 (qe 10 103 r1 r1 (qf (oP (ZhS gg (Go.Gm.nth l i) hfit.1 (hlt _ (ZM hio))) Tryz.func26 (Args.two (.pagg .t) (.pagg .t))) r2 qz (qM rfl rfl (qf (o_extract .t rfl) r1 qz (qf (o_extract .t rfl) r1 qz (qf (oH [.slice none 0 0,.slice none 0 0] 104) trivial qz (qf (oA 2 104 .same (.conv .t .agg)) r2 r1 (qN rfl rfl qZ))))))))) hB [13,12,11,10,9,7,6,5,4,2,1] [104,103,102,101,1,0] (fun _=>rfl) (fun _=>rfl) fun τ a w F hS=>?_
  try dsimp only [RS.sub,SF.sub,CF.sub,csub,Anc.sub,List.map,Zf,xL,xM,Nat.reduceAdd,xD,xE,xT,xU,xC,xN,zCF,ldSF,Zj,rTx,Zs,Zv,rInt,rOp,rCmd,ZC,Zaj,ZH,Zu] at hS
  generalize τ 9=v9 at hS
  refine Za (wp_seq (wp_seq ?_))
  refine Zb hS (qM rfl rfl (qf (o_neq .t qi) r1 qz qZ)) hB [25,13,12,11,10,9,7,6,5,4,2,1] [104,103,102,101,1,0] rfl rfl fun a w F hS=>Za ?_
  refine Zd hS rfl (fun hc1=>?_) (fun hc1=>?_)
  ·skip
   have hg:=ZdH hpc hio (by simpa using hc1)
   refine wp_seq ?_
   refine Zb hS (qf (oB [] [.slice none 0 0,.slice none 0 0] [(0,1),(1,1)] .nil) trivial qz (qM rfl rfl (qM rfl rfl (qs 2 102 r2 r1 (qN rfl rfl (qN rfl rfl qZ)))))) hB [13,12,11,9,6,5,4,2,1] [104,103,102,101,1,0] rfl rfl fun a w F hS=>Za (wp_ret (Zg (Zm (Zg (Zg (Zm (Zg ?_)))))))
   have hS:=hS.turn 1 rfl (r':=RS.hp (Zw 45 10 rCmd l v)) (fun _ _ _ _ h=>h)
   refine ZhN hG hS rfl (.cl 102 true 2 rfl rfl (.tmp rfl (.tmp rfl .nil))) (.three (by rw [hg];first | exact .aggU rfl rfl | exact .aggLe rfl ⟨PVLe.nilSl,PVLe.nilSl,trivial⟩) (.int (by rw [hg])) (.int (by rw [hg]))) rfl
  have hok:¬ (Z0 gg (Go.Gm.nth l i)).2≠0:=by simpa using hc1
  refine wp_skip (Za ?_)
  refine Zb hS (qe 2 104 r1 r1 (qs 2 101 r2 r1 qZ)) hB [13,12,11,6,5,4,2,1] [104,103,102,101,1,0] rfl rfl fun a w F hS=>Zi (Za ?_)
  refine Zb hS (qp r1 (qM rfl rfl qZ)) hB [13,12,11,6,5,4,2,1] [104,103,102,101,1,0] rfl rfl fun a w F hS=>Za ?_
  replace hS:=hS.ent (i:=13) (s':=.pv (.int .i64 ((i+1:Nat):Int))) rfl (.int (Ze (by omega)))
  obtain ⟨F,hS⟩:=hS.nm [12,11,6,5,4,2,1,13] [102,1,0,101] rfl rfl
  exact ⟨((i+1),((Z0 gg (Go.Gm.nth l i)).1)),F,⟨by omega,⟨Zcy hpc hio hok,hfit.edit (by omega) (hlt _ (ZM hio)) hok⟩⟩,hS,by omega⟩
 have hil:i=l.length:=by simp at hc0;omega
 have hg:=Zdw hpc hil
 refine wp_exit (Zk (Zk (Zq (Za (wp_seq ?_)))))
 refine Zb hS (qe 2 101 r1 r1 (qM rfl rfl (qf (Z4 1 Tryz.underlying26 .is) r1 r1 (qs 2 102 r2 r1 (qN rfl rfl (qI qZ)))))) hB [6,5,4] [102,101,1,0] rfl rfl fun a w F hS=>Za (wp_ret ?_)
 have hS:=hS.turn 1 rfl (r':=RS.hp (Zw 45 10 rCmd l v)) (fun _ _ _ _ h=>h)
 refine ZhN hG hS rfl (.cl 102 true 2 rfl rfl (.tmp rfl (.tmp rfl .nil))) (.three (by rw [hg];first | exact .aggU rfl rfl | exact .aggLe rfl ⟨PVLe.nilSl,PVLe.nilSl,trivial⟩) (.int (by rw [hg])) (.int (by rw [hg]))) rfl
theorem ZbU (g o:Zn) (n:Nat) (hn:n≤27) (hg0:ZcJ n g) (ho0:ZcJ n o):FnP Tryz.prog 10 [.agg (Zj g),.agg (Zj o)] (.tup [.sl rCmd (Zdy g o).1,.int .i64 (Zdy g o).2]):=by
 refine FnP.mk Tryz.func10 rfl Tryz.ntmps10 rfl ?_
 intro B a w F hB hfr hS
 have hst:=hg0.1.1
 have hso:=ho0.1.2
 have hos:=ho0.1.2.1
 have hsg:=hg0.1.1
 obtain ⟨hfn,hfl,hpl⟩:=hg0.first ho0 (by omega)
 have hfc:(ZI g o).length≤166:=by omega
 have hsf:=Zc7 g o
 have hfs9:(List.map List.length (Zao g o)).sum=(Zao g o).flatten.length:=by rw [List.length_flatten]
 have hgl:=hg0.2.1
 have hol9:=ho0.2.1
 refine wp_seq ?_
 refine Zc hS (qx 101 r1 (qx 102 r1 (qC (qI qZ)))) hB [5,4,3,2] [102,101,0] (fun _=>rfl) (fun _=>rfl) fun τ a w F hS=>?_
 try dsimp only [RS.sub,SF.sub,CF.sub,csub,Anc.sub,List.map,zCF,Zj,rTx,Zs,Zv,rInt,rOp,rCmd,ZC,Zaj,ZH,Zu,Zbr] at hS
 generalize τ 2=v2 at hS
 generalize τ 3=v3 at hS
 refine Za (wp_seq (wp_seq ?_))
 refine Zb hS (qe 2 101 r1 r1 (qf (oP (Zdz g hg0.1) Tryz.func16 (Args.one (.pagg .t))) r1 qz (qf (o_not .t) r1 qz (qM rfl rfl (qk rfl (fun h=>oL true 2 102 .is) r2 r1 (qk rfl (fun h=>oP (Zdz o ho0.1) Tryz.func16 (Args.one (.pagg (.w h)))) r2 qz (qk rfl (fun h=>o_not (.w h)) r2 qz (qf (ZaI .t .t) r2 qz qZ)))))))) hB [25,5,4,3,2] [102,101,0] rfl rfl fun a w F hS=>Za ?_
 refine Zd hS rfl (fun hc0=>?_) (fun hc0=>?_)
 ·skip
  have hr:¬ Zx g∨¬ Zx o:=by have h9:=hc0;simp at h9;first | exact h9 | exact Classical.or_iff_not_imp_left.2 (fun k=>h9 (Classical.not_not.1 k))
  refine wp_seq ?_
  refine Zb hS (qC (qI qZ)) hB [5,4,3,2] [102,101,0] rfl rfl fun a w F hS=>Za (wp_ret (Zg ?_))
  refine ZA hfr hS rfl (.tmp rfl (.tmp rfl .nil)) (.two (.trans .nilSl (.sl (by first | rw [Za2 hr] | (rw [Za4 hr,hq,hil,List.take_length])))) (.int (by first | rw [Za2 hr] | rw [Za4 hr])))
 have hr:¬ (¬ Zx g∨¬ Zx o):=by have h9:=hc0;simp at h9;first | exact h9 | simpa using h9
 refine wp_skip (Za (wp_seq ?_))
 refine Zb hS (qC qZ) hB [6,5,4,3,2] [102,101,0] rfl rfl fun a w F hS=>Za (wp_seq (wp_seq ?_))
 refine Zb hS (qe 2 101 r1 r1 (qe 2 102 r1 r1 (qf (oP (ZmV g o hst ho0.1.1) Tryz.func31 (Args.two (.pagg .t) (.pagg .t))) r2 qz (qu Tryz.underlying60 r1 (qJ qZ))))) hB [30,29,28,6,5,4,3,2] [102,101,0] rfl rfl fun a w F hS=>Za (wp_block ?_)
 replace hS:=hS.fresh 50 rfl
 replace hS:=hS.turn 50 rfl (Zaf (T:=45) (sz:=10) (R:=rCmd))
 refine Zl (σ:=(Nat)×(Value)×(List CmdD)) [2,3,4,5,28,29] [0,101,102] (fun s=>[(30,.pv (.int .i64 (s.1:Int))),(6,.pv (.is s.2.1))]) (fun s=>[(50,.ob (.val s.2.1) (Zw 45 10 rCmd s.2.2))]) (fun s=>s.1≤(Zao g o).flatten.length∧(s.2.2=((Zao g o).flatten.take s.1).map Zb6)) (fun s=>(Zao g o).flatten.length - s.1) ((0),(.slice none 0 0),([])) hS ⟨rfl,rfl,rfl,rfl,rfl,rfl,rfl,rfl,trivial⟩ ⟨rfl,rfl,rfl,rfl,trivial⟩ ⟨Nat.zero_le _,rfl⟩ ?_
 clear hS;intro s a w F hC hS
 obtain ⟨i,v,out⟩:=s
 try dsimp only at hC
 obtain ⟨F,hS⟩:=hS.nm [30,29,28,6,5,4,3,2] [102,101,50,0] rfl rfl
 try dsimp only at hS
 obtain ⟨hi,hq⟩:=hC
 have hol:out.length≤i:=by rw [hq,List.length_map,List.length_take];omega
 refine wp_seq ?_
 refine Zb hS (qL r2) hB [31,30,29,28,6,5,4,3,2] [102,101,50,0] rfl rfl fun a w F hS=>Za (wp_seq ?_)
 refine Zd hS rfl (fun hc1=>?_) (fun hc1=>?_)
 ·skip
  have hil:i<(Zao g o).flatten.length:=by simp at hc1;omega
  have hio:=hil
  refine wp_skip (Za (wp_seq (wp_block (wp_seq ?_))))
  refine Zb hS (qy 1 Tryz.underlying60 r2 (qf (oR false 1 .t) r1 qz (qN rfl rfl qZ))) hB [30,29,28,8,6,5,4,3,2] [102,101,50,0] rfl rfl fun a w F hS=>?_
  try simp only [Int.toNat_natCast] at hS
  refine Za ?_
  refine Zc hS (qM rfl rfl (qM rfl rfl (qf (oP (ZkB (Go.Gm.nth (Zao g o).flatten i) (Zjw (ZM hio)) (by have h9:=Zk2 (n:=1000) (fun t ht=>Nat.le_trans (hg0.2.2 t ht) (by omega)) (fun t ht=>Nat.le_trans (ho0.2.2 t ht) (by omega)) (ZM hio);exact h9)) Tryz.func32 (Args.one .t)) r1 qz (qf (Zh (sz:=10) (zs:=[.int .i64 0,.int .i64 0,.bool false,.slice none 0 0,.int .i64 0,.slice none 0 0,.int .i64 0,.int .i64 0,.int .i64 0,.int .i64 0]) (r:=[(0,.tmp 36)]) (l:=[_,_,_,_,_,_,_,_,_,_]) Tryz.underlying26 (by kernel_rfl) (by kernel_rfl) (by kernel_rfl) (by kernel_rfl) rfl rfl (.agg rfl (.conv .t .agg) (by kernel_rfl) (by kernel_rfl) .nil) rfl) r1 qz (qf (o_append (sz:=10) (bs:=112) 50 (.mk' Tryz.underlying26 (by kernel_rfl) (by kernel_rfl)) (by intro x;rfl) .is (.arr (l':=[Zb6 (Go.Gm.nth (Zao g o).flatten i)]) .t) (by simp only [List.length_append,List.length_cons,List.length_nil];omega) (by decide)) ⟨rfl,rfl,trivial⟩ ⟨rfl,trivial⟩ (qN rfl rfl qZ)))))) hB [30,29,28,6,5,4,3,2] [102,101,50,0] (fun _=>rfl) (fun _=>rfl) fun τ a w F hS=>?_
  try dsimp only [RS.sub,SF.sub,CF.sub,csub,Anc.sub,List.map,Zf,xL,xM,Nat.reduceAdd,xD,xE,xT,xU,xC,xN,zCF,Zj,rTx,Zs,Zv,rInt,rOp,rCmd,ZC,Zaj,ZH,Zu,Zbr] at hS
  generalize τ 38=v38 at hS
  refine Zi (Za ?_)
  refine Zb hS (qp r1 (qM rfl rfl qZ)) hB [30,29,28,6,5,4,3,2] [102,101,50,0] rfl rfl fun a w F hS=>Za ?_
  replace hS:=hS.ent (i:=30) (s':=.pv (.int .i64 ((i+1:Nat):Int))) rfl (.int (Ze (by omega)))
  obtain ⟨F,hS⟩:=hS.nm [29,28,5,4,3,2,6,30] [102,101,0,50] rfl rfl
  exact ⟨((i+1),_,_),F,⟨by omega,(by rw [Zdd hio,hq])⟩,hS,by omega⟩
 have hil:i=(Zao g o).flatten.length:=by simp at hc1;omega
 have hqe:out=ZI g o:=by rw [hq,hil,List.take_length,ZeL]
 subst hqe
 refine wp_exit (Zk (Zk (Zq (Za (wp_seq ?_)))))
 refine Zc hS (qe 2 101 r1 r1 (qM rfl rfl (qf (Zcc 50 (Zmk v g (ZI g o) n hg0 hfn hfl) Tryz.func12 rfl (by kernel_rfl) (Args.two (.pagg .t) .t)) r2 r1 (qM rfl rfl (qf (o_extract .t rfl) r1 qz (qf (o_extract .t rfl) r1 qz (qf (o_extract .t rfl) r1 qz (qf (oH [.slice none 0 0,.slice none 0 0] 103) trivial qz (qf (oA 2 103 .same (.conv .t .agg)) r2 r1 (qN rfl rfl (qN rfl rfl qZ))))))))))) hB [9,6,5,4,3] [103,102,101,50,0] (fun _=>rfl) (fun _=>rfl) fun τ a w F hS=>?_
 try dsimp only [RS.sub,SF.sub,CF.sub,csub,Anc.sub,List.map,Zf,xL,xM,Nat.reduceAdd,xD,xE,xT,xU,xC,xN,zCF,ldSF,Zj,rTx,Zs,Zv,rInt,rOp,rCmd,ZC,Zaj,ZH,Zu,Zbr] at hS
 generalize τ 9=v9 at hS
 refine Za (wp_seq (wp_seq ?_))
 refine Zb hS (qg 1 102 r1 r1 (qa 102 r1 r1 (qu Tryz.underlying23 r1 (qJ qZ)))) hB [50,49,48,9,6,5,4] [103,102,101,50,0] rfl rfl fun a w F hS=>Za (wp_block ?_)
 refine Zl (σ:=(Nat)×(Value)×(List CmdD)) [4,5,9,48,49] [0,101,102,103] (fun s=>[(50,.pv (.int .i64 (s.1:Int))),(6,.pv (.is s.2.1))]) (fun s=>[(50,.ob (.val s.2.1) (Zw 45 10 rCmd s.2.2))]) (fun s=>s.1≤o.orders.length∧(s.2.2=ZI g o++(o.orders.take s.1).flatMap (mvC (ZQ g (ZI g o) 0).1))) (fun s=>o.orders.length - s.1) ((0),(v),((ZI g o))) hS ⟨rfl,rfl,rfl,rfl,rfl,rfl,rfl,trivial⟩ ⟨rfl,rfl,rfl,rfl,rfl,trivial⟩ ⟨Nat.zero_le _,(by simp)⟩ ?_
 clear hS;intro s a w F hC hS
 obtain ⟨i,v,out⟩:=s
 try dsimp only at hC
 obtain ⟨F,hS⟩:=hS.nm [50,49,48,9,6,5,4] [103,102,101,50,0] rfl rfl
 try dsimp only at hS
 obtain ⟨hi,hq⟩:=hC
 have hqo:=hq
 have hol:out.length≤200+1000*i:=by
   rw [hq,List.length_append]
   have h1:=Zkw (h:=(ZQ g (ZI g o) 0).1) hso i
   omega
 refine wp_seq ?_
 refine Zb hS (qL r2) hB [51,50,49,48,9,6,5,4] [103,102,101,50,0] rfl rfl fun a w F hS=>Za (wp_seq ?_)
 refine Zd hS rfl (fun hc2=>?_) (fun hc2=>?_)
 ·skip
  have hil:i<o.orders.length:=by simp at hc2;omega
  have hio:=hil
  have hoo:=hso.at hio
  have hsh:=Zc8 (getO (ZQ g (ZI g o) 0).1.orders (Go.Gm.nth o.orders i).key) (Go.Gm.nth o.orders i).txs
  refine wp_skip (Za (wp_seq (wp_block (wp_seq ?_))))
  refine Zc hS (qy 2 Tryz.underlying23 r2 (qf (oR true 2 .t) r1 qz (qf (oH [.int .i64 0,.slice none 0 0] 104) trivial qz (qS 2 104 r2 r1 qZ)))) hB [50,49,48,13,9,6,5,4] [104,103,102,101,50,0] (fun _=>rfl) (fun _=>rfl) fun τ a w F hS=>?_
  try dsimp only [RS.sub,SF.sub,CF.sub,csub,Anc.sub,List.map,Zf,xL,xM,Nat.reduceAdd,xD,xE,xT,xU,xC,xN,zCF,ldSF,Zj,rTx,Zs,Zv,rInt,rOp,rCmd,ZC,Zaj,ZH,Zu,Zbr] at hS
  generalize τ 13=v13 at hS
  try simp only [Int.toNat_natCast] at hS
  refine Za (wp_seq ?_)
  refine ZE hS (qe 2 103 r1 r1 (qg 0 104 r1 r1 (qa 104 r1 r1 (qf (oP (ZlZ (ZQ g (ZI g o) 0).1 (Go.Gm.nth o.orders i).key hpl.2) Tryz.func34 (Args.two (.pagg .t) .t)) r2 qz (qg 1 104 r1 r1 (qa 104 r1 r1 (qf (oP (Zl0 (getO (ZQ g (ZI g o) 0).1.orders (Go.Gm.nth o.orders i).key) (Go.Gm.nth o.orders i).txs (Nat.le_trans (Zdl hpl.2 _) (by omega)) (by omega)) Tryz.func33 (Args.two .t .t)) r2 qz (qM rfl rfl (qf (o_extract .t rfl) r1 qz (qf (o_extract .t rfl) r1 qz (qN rfl rfl (qN rfl rfl qZ)))))))))))) hB [50,49,48,14,13,9,6,5,4] [104,103,102,101,50,0] rfl rfl fun a w F hS=>?_
  try dsimp only [List.map,xD,xE,xT,xU,ldSF,Zj,rTx,Zs,Zv,rInt,rOp,rCmd,ZC,Zaj,ZH,Zu,Zbr] at hS
  refine Za (wp_seq ?_)
  refine Zb hS (qM rfl rfl (qu Tryz.underlying65 r1 (qJ qZ))) hB [66,65,64,50,49,48,13,9,6,5,4] [104,103,102,101,50,0] rfl rfl fun a w F hS=>Za (wp_block ?_)
  refine Zl (σ:=(Nat)×(Value)×(List CmdD)) [4,5,9,13,48,49,50,64,65] [0,101,102,103,104] (fun s=>[(66,.pv (.int .i64 (s.1:Int))),(6,.pv (.is s.2.1))]) (fun s=>[(50,.ob (.val s.2.1) (Zw 45 10 rCmd s.2.2))]) (fun s=>s.1≤(Zae (getO (ZQ g (ZI g o) 0).1.orders (Go.Gm.nth o.orders i).key) (Go.Gm.nth o.orders i).txs).1.length∧(s.2.2=out++((Zae (getO (ZQ g (ZI g o) 0).1.orders (Go.Gm.nth o.orders i).key) (Go.Gm.nth o.orders i).txs).1.take s.1).map (Zn7 (Go.Gm.nth o.orders i).key))) (fun s=>(Zae (getO (ZQ g (ZI g o) 0).1.orders (Go.Gm.nth o.orders i).key) (Go.Gm.nth o.orders i).txs).1.length - s.1) ((0),(v),(out)) hS ⟨rfl,rfl,rfl,rfl,rfl,rfl,rfl,rfl,rfl,rfl,rfl,trivial⟩ ⟨rfl,rfl,rfl,rfl,rfl,rfl,trivial⟩ ⟨Nat.zero_le _,(by simp)⟩ ?_
  clear hS;intro s a w F hC hS
  obtain ⟨k,v,out2⟩:=s
  try dsimp only at hC
  obtain ⟨F,hS⟩:=hS.nm [66,65,64,50,49,48,13,9,6,5,4] [104,103,102,101,50,0] rfl rfl
  try dsimp only at hS
  obtain ⟨hi,hq⟩:=hC
  have hq2:=hq
  have hol2:out2.length≤out.length+k:=by rw [hq2,List.length_append,List.length_map,List.length_take];omega
  refine wp_seq ?_
  refine Zb hS (qL r2) hB [67,66,65,64,50,49,48,13,9,6,5,4] [104,103,102,101,50,0] rfl rfl fun a w F hS=>Za (wp_seq ?_)
  refine Zd hS rfl (fun hc3=>?_) (fun hc3=>?_)
  ·skip
   have hil:k<(Zae (getO (ZQ g (ZI g o) 0).1.orders (Go.Gm.nth o.orders i).key) (Go.Gm.nth o.orders i).txs).1.length:=by simp at hc3;omega
   have hko:=hil
   refine wp_skip (Za (wp_seq (wp_block (wp_seq ?_))))
   refine Zc hS (qy 2 Tryz.underlying65 r2 (qf (oR true 2 .t) r1 qz (qf (oH [.int .i64 0,.int .i64 0] 105) trivial qz (qS 2 105 r2 r1 qZ)))) hB [66,65,64,50,49,48,17,13,9,6,5,4] [105,104,103,102,101,50,0] (fun _=>rfl) (fun _=>rfl) fun τ a w F hS=>?_
   try dsimp only [RS.sub,SF.sub,CF.sub,csub,Anc.sub,List.map,Zf,xL,xM,Nat.reduceAdd,xD,xE,xT,xU,xC,xN,zCF,ldSF,Zj,rTx,Zs,Zv,rInt,rOp,rCmd,ZC,Zaj,ZH,Zu,Zbr] at hS
   generalize τ 17=v17 at hS
   try simp only [Int.toNat_natCast] at hS
   refine Za ?_
   refine Zc hS (qM rfl rfl (qg 0 104 r1 r1 (qa 104 r1 r1 (qg 0 105 r1 r1 (qa 105 r1 r1 (qg 1 105 r1 r1 (qa 105 r1 r1 (qf (oB [(0,_),(3,.tmp 72),(4,.tmp 74),(5,.tmp 76)] [.int .i64 0,.int .i64 0,.bool false,.slice none 0 0,.int .i64 0,.slice none 0 0,.int .i64 0,.int .i64 0,.int .i64 0,.int .i64 0] [(0,1),(1,3),(4,2),(6,1),(7,1),(8,1),(9,1)] (.one rfl qi one_int (by kernel_rfl) (.one rfl .t one_int (by kernel_rfl) (.one rfl .t one_int (by kernel_rfl) (.one rfl .t one_int (by kernel_rfl) .nil))))) r3 qz (qf (Zh (sz:=10) (zs:=[.int .i64 0,.int .i64 0,.bool false,.slice none 0 0,.int .i64 0,.slice none 0 0,.int .i64 0,.int .i64 0,.int .i64 0,.int .i64 0]) (r:=[(0,.tmp 77)]) (l:=[_,_,_,_,_,_,_,_,_,_]) Tryz.underlying26 (by kernel_rfl) (by kernel_rfl) (by kernel_rfl) (by kernel_rfl) rfl rfl (.agg rfl .t (by kernel_rfl) (by kernel_rfl) .nil) rfl) r1 qz (qf (o_append (sz:=10) (bs:=112) 50 (.mk' Tryz.underlying26 (by kernel_rfl) (by kernel_rfl)) (by intro x;rfl) .is (.sl (.conv .t (entArr (l:=[.int .i64 5,.int .i64 0,.bool false,.is (.slice none 0 0),.int .i64 0,.is (.slice none 0 0),.int .i64 (Go.Gm.nth o.orders i).key,.int .i64 (Go.Gm.nth (Zae (getO (ZQ g (ZI g o) 0).1.orders (Go.Gm.nth o.orders i).key) (Go.Gm.nth o.orders i).txs).1 k).key,.int .i64 (Go.Gm.nth (Zae (getO (ZQ g (ZI g o) 0).1.orders (Go.Gm.nth o.orders i).key) (Go.Gm.nth o.orders i).txs).1 k).val,.int .i64 0]) (R:=rCmd) (l':=[Zn7 (Go.Gm.nth o.orders i).key (Go.Gm.nth (Zae (getO (ZQ g (ZI g o) 0).1.orders (Go.Gm.nth o.orders i).key) (Go.Gm.nth o.orders i).txs).1 k)]) rfl ⟨PVLe.refl,PVLe.refl,PVLe.refl,PVLe.nilSl,PVLe.refl,PVLe.nilSl,PVLe.refl,PVLe.refl,PVLe.refl,PVLe.refl,trivial⟩))) (by simp only [List.length_append,List.length_cons,List.length_nil];omega) (by decide)) ⟨rfl,rfl,trivial⟩ ⟨rfl,trivial⟩ (qN rfl rfl qZ))))))))))) hB [66,65,64,50,49,48,13,9,6,5,4] [105,104,103,102,101,50,0] (fun _=>rfl) (fun _=>rfl) fun τ a w F hS=>?_
   try dsimp only [RS.sub,SF.sub,CF.sub,csub,Anc.sub,List.map,Zf,xL,xM,Nat.reduceAdd,xD,xE,xT,xU,xC,xN,zCF,ldSF,Zj,rTx,Zs,Zv,rInt,rOp,rCmd,ZC,Zaj,ZH,Zu,Zbr] at hS
   generalize τ 79=v79 at hS
   refine Zi (Za ?_)
   refine Zb hS (qp r1 (qM rfl rfl qZ)) hB [66,65,64,50,49,48,13,9,6,5,4] [105,104,103,102,101,50,0] rfl rfl fun a w F hS=>Za ?_
   replace hS:=hS.ent (i:=66) (s':=.pv (.int .i64 ((k+1:Nat):Int))) rfl (.int (Ze (by omega)))
   obtain ⟨F,hS⟩:=hS.nm [65,64,50,49,48,13,9,5,4,6,66] [104,103,102,101,0,50] rfl rfl
   exact ⟨((k+1),_,_),F,⟨by omega,(by rw [Zdd hko,hq2,List.append_assoc])⟩,hS,by omega⟩
  have hil:k=(Zae (getO (ZQ g (ZI g o) 0).1.orders (Go.Gm.nth o.orders i).key) (Go.Gm.nth o.orders i).txs).1.length:=by simp at hc3;omega
  have hil2:=hil
  refine wp_exit (Zk (Zk (Zq (Zi (Za ?_)))))
  refine Zb hS (qp r1 (qM rfl rfl qZ)) hB [50,49,48,9,6,5,4] [104,103,102,101,50,0] rfl rfl fun a w F hS=>Za ?_
  replace hS:=hS.ent (i:=50) (s':=.pv (.int .i64 ((i+1:Nat):Int))) rfl (.int (Ze (by omega)))
  obtain ⟨F,hS⟩:=hS.nm [49,48,9,5,4,6,50] [103,102,101,0,50] rfl rfl
  exact ⟨((i+1),_,(out2)),F,⟨by omega,(by rw [hq2,hil2,List.take_length];exact ZiF hqo hio)⟩,hS,by omega⟩
 have hil:i=o.orders.length:=by simp at hc2;omega
 refine wp_exit (Zk (Zk (Zq (Za (wp_seq ?_)))))
 refine Zb hS (qM rfl rfl (qN rfl rfl (qI qZ))) hB [5,4] [103,102,101,50,0] rfl rfl fun a w F hS=>Za (wp_ret ?_)
 obtain ⟨F,hS⟩:=hS.give 50 4 rfl rfl
 refine ZA hfr hS rfl (.tmp rfl (.tmp rfl .nil)) (.two (.sl (by first | rw [Za2 hr] | (rw [Za4 hr,hq,hil,List.take_length]))) (.int (by first | rw [Za2 hr] | rw [Za4 hr])))
theorem Zl2 (u v:CmdD):((((((decide (u.kind=v.kind) && decide (u.tx=v.tx)) && decide (u.order=v.order)) && decide (u.key=v.key)) && decide (u.id=v.id)) && decide (u.place=v.place)) && decide (u.phen=v.phen))=decide (u=v):=by
 obtain ⟨a1,a2,a3,a5,a6,a7,a8⟩:=u
 obtain ⟨b1,b2,b3,b5,b6,b7,b8⟩:=v
 rw [Bool.eq_iff_iff]
 simp [and_assoc]
theorem ZgX (u v:CmdD):FnP Tryz.prog 40 [.agg (rCmd u),.agg (rCmd v)] (.bool (decide (u=v))):=by
 refine FnP.mk Tryz.func40 rfl Tryz.ntmps40 rfl ?_
 intro B a w F hB hfr hS
 refine wp_seq ?_
 refine Zc hS (qx 101 r1 (qx 102 r1 qB)) hB [4,3,2] [102,101,0] (fun _=>rfl) (fun _=>rfl) fun τ a w F hS=>?_
 try dsimp only [RS.sub,SF.sub,CF.sub,csub,Anc.sub,List.map,zCF,rCmd] at hS
 generalize τ 2=v2 at hS
 generalize τ 3=v3 at hS
 refine Za (wp_seq ?_)
 refine ZcU hS (by kernel_rfl) (nf (oF 0 101 .is) r1 r1 (nf (oL false 1 101 .adr) r1 r1 (nf (oF 0 102 .is) r1 r1 (nf (oL false 1 102 .adr) r1 r1 (nf (o_eql .t .t) r2 trivial (nM rfl rfl (nk rfl (fun h=>oF 1 101 .is) r2 r1 (nk rfl (fun h=>oL true 3 101 (.w h .adr)) r2 r1 (nk rfl (fun h=>oF 1 102 .is) r2 r1 (nk rfl (fun h=>oL true 3 102 (.w h .adr)) r2 r1 (nk rfl (fun h=>oP (ZiC u.tx v.tx) Tryz.func41 (Args.two (.pagg (.w h)) (.pagg (.w h)))) r3 trivial (nf (Zy .t .t) r2 trivial (nM rfl rfl (nk rfl (fun h=>oF 4 101 .is) r2 r1 (nk rfl (fun h=>oL true 2 101 (.w h .adr)) r2 r1 (nk rfl (fun h=>oF 4 102 .is) r2 r1 (nk rfl (fun h=>oL true 2 102 (.w h .adr)) r2 r1 (nk rfl (fun h=>oP (ZeE u.order v.order) Tryz.func42 (Args.two (.pagg (.w h)) (.pagg (.w h)))) r3 trivial (nf (Zy .t .t) r2 trivial (nM rfl rfl (nk rfl (fun h=>oF 6 101 .is) r2 r1 (nk rfl (fun h=>oL false 1 101 (.w h .adr)) r2 r1 (nk rfl (fun h=>oF 6 102 .is) r2 r1 (nk rfl (fun h=>oL false 1 102 (.w h .adr)) r2 r1 (nn [28,26,24,4,3,2] [102,101,0] rfl rfl (nk rfl (fun h=>o_eql (.w h) (.w h)) r3 trivial (nf (Zy .t .t) r2 trivial (nM rfl rfl (nk rfl (fun h=>oF 7 101 .is) r2 r1 (nk rfl (fun h=>oL false 1 101 (.w h .adr)) r2 r1 (nk rfl (fun h=>oF 7 102 .is) r2 r1 (nk rfl (fun h=>oL false 1 102 (.w h .adr)) r2 r1 (nk rfl (fun h=>o_eql (.w h) (.w h)) r3 trivial (nf (Zy .t .t) r2 trivial (nM rfl rfl (nk rfl (fun h=>oF 8 101 .is) r2 r1 (nk rfl (fun h=>oL false 1 101 (.w h .adr)) r2 r1 (nk rfl (fun h=>oF 8 102 .is) r2 r1 (nk rfl (fun h=>oL false 1 102 (.w h .adr)) r2 r1 (nk rfl (fun h=>o_eql (.w h) (.w h)) r3 trivial (nf (Zy .t .t) r2 trivial (nM rfl rfl (nk rfl (fun h=>oF 9 101 .is) r2 r1 (nk rfl (fun h=>oL false 1 101 (.w h .adr)) r2 r1 (nk rfl (fun h=>oF 9 102 .is) r2 r1 (nk rfl (fun h=>oL false 1 102 (.w h .adr)) r2 r1 (nk rfl (fun h=>o_eql (.w h) (.w h)) r3 trivial (nf (Zy .t .t) r2 trivial (nN rfl rfl ZW.nil))))))))))))))))))))))))))))))))))))))))))))))))) (by kernel_rfl) (by rw [hB];kernel_rfl) fun a w F hS=>?_
 obtain ⟨F,hS⟩:=hS.nm [4] [102,101,0] rfl rfl
 try dsimp only [List.map,xD,xE,xT,xU,ldSF,rCmd] at hS
 refine Za (wp_ret ?_)
 refine Zr hfr hS rfl rfl rfl (.bool (Zl2 u v))
theorem Zmn (x y:List CmdD):FnP Tryz.prog 14 [.sl rCmd x,.sl rCmd y] (.bool (decide (x=y))):=by
 refine FnP.mk Tryz.func14 rfl Tryz.ntmps14 rfl ?_
 intro B a w F hB hfr hS
 have hxl:=Sat.lenSl hS (i:=0) rfl
 refine wp_seq ?_
 refine Zb hS qB hB [4,1,0] [0] rfl rfl fun a w F hS=>Za (wp_seq (wp_seq ?_))
 refine Zb hS (qM rfl rfl (qu Tryz.underlying26 r1 (qM rfl rfl (qu Tryz.underlying26 r1 (qf (o_neq .t .t) r2 qz qZ))))) hB [10,4,1,0] [0] rfl rfl fun a w F hS=>Za ?_
 refine Zd hS rfl (fun hc0=>?_) (fun hc0=>?_)
 ·skip
  have hg:false=decide (x=y):=(decide_eq_false fun e=>by subst e;simp at hc0).symm
  refine wp_seq ?_
  refine Zb hS qB hB [4,1,0] [0] rfl rfl fun a w F hS=>Za (wp_ret (Zg ?_))
  refine Zr hfr hS rfl rfl rfl (.bool hg)
 have hln:x.length=y.length:=by simp at hc0;omega
 refine wp_skip (Za (wp_seq (wp_seq ?_)))
 refine Zb hS (qM rfl rfl (qu Tryz.underlying26 r1 (qJ qZ))) hB [13,12,4,1,0] [0] rfl rfl fun a w F hS=>Za (wp_block ?_)
 refine Zl (σ:=(Nat)) [0,1,4,12] [0] (fun s=>[(13,.pv (.int .i64 (s:Int)))]) (fun s=>[]) (fun s=>s≤x.length∧(∀ q,q<s→Go.Gm.nth x q=Go.Gm.nth y q)) (fun s=>x.length - s) (0) hS ⟨rfl,rfl,rfl,rfl,rfl,trivial⟩ ⟨rfl,trivial⟩ ⟨Nat.zero_le _,fun q hq=>absurd hq (Nat.not_lt_zero q)⟩ ?_
 clear hS;intro i a w F hC hS
 try dsimp only at hC
 obtain ⟨F,hS⟩:=hS.nm [13,12,4,1,0] [0] rfl rfl
 try dsimp only at hS
 obtain ⟨hi,hq⟩:=hC
 refine wp_seq ?_
 refine Zb hS (qL r2) hB [14,13,12,4,1,0] [0] rfl rfl fun a w F hS=>Za (wp_seq ?_)
 refine Zd hS rfl (fun hc1=>?_) (fun hc1=>?_)
 ·skip
  have hil:i<x.length:=by simp at hc1;omega
  refine wp_skip (Za (wp_seq (wp_block (wp_seq ?_))))
  refine Zb hS (qM rfl rfl (qN rfl rfl qZ)) hB [13,12,5,4,1,0] [0] rfl rfl fun a w F hS=>Za (wp_seq ?_)
  refine ZE hS (qM rfl rfl (qM rfl rfl (qy 10 Tryz.underlying26 r2 (qf (oR true 10 .t) r1 qz (qM rfl rfl (qM rfl rfl (qy 10 Tryz.underlying26 r2 (qf (oR true 10 .t) r1 qz (qf (oP (ZgX (Go.Gm.nth x i) (Go.Gm.nth y i)) Tryz.func40 (Args.two (.pagg .t) (.pagg .t))) r2 qz (qf (o_not .t) r1 qz qZ)))))))))) hB [25,13,12,4,1,0] [0] rfl rfl fun a w F hS=>?_
  try dsimp only [List.map,xD,xE,xT,xU,ldSF,Zj,rTx,Zs,Zv,rInt,rOp,rCmd] at hS
  try simp only [Int.toNat_natCast] at hS
  refine Za ?_
  refine Zd hS rfl (fun hc2=>?_) (fun hc2=>?_)
  ·skip
   have hg:false=decide (x=y):=(decide_eq_false fun e=>by subst e;simp at hc2).symm
   refine wp_seq ?_
   refine Zb hS qB hB [13,12,4,1,0] [0] rfl rfl fun a w F hS=>Za (wp_ret (Zm (Zg (Zg (Zm (Zg ?_))))))
   refine Zr hfr hS rfl rfl rfl (.bool hg)
  have hne:Go.Gm.nth x i=Go.Gm.nth y i:=by simpa using hc2
  refine wp_skip (Zi (Za ?_))
  refine Zb hS (qp r1 (qM rfl rfl qZ)) hB [13,12,4,1,0] [0] rfl rfl fun a w F hS=>Za ?_
  replace hS:=hS.ent (i:=13) (s':=.pv (.int .i64 ((i+1:Nat):Int))) rfl (.int (Ze (by omega)))
  obtain ⟨F,hS⟩:=hS.nm [12,4,1,0,13] [0] rfl rfl
  exact ⟨(i+1),F,⟨by omega,(fun q h9=>by rcases Nat.lt_or_eq_of_le (Nat.le_of_lt_succ h9) with h8 | h8;exact hq q h8;rw [h8];exact hne)⟩,hS,by omega⟩
 have hil:i=x.length:=by simp at hc1;omega
 have hg:true=decide (x=y):=(decide_eq_true (Zbm hln fun j hj=>hq j (by omega))).symm
 refine wp_exit (Zk (Zk (Zq (Za (wp_seq ?_)))))
 refine Zb hS qB hB [4] [0] rfl rfl fun a w F hS=>Za (wp_ret ?_)
 refine Zr hfr hS rfl rfl rfl (.bool hg)
theorem ZmD (l:List CmdD):FnP Tryz.prog 8 [.sl rCmd l] (.bool (decide (Zfp l))):=by
 refine FnP.mk Tryz.func8 rfl Tryz.ntmps8 rfl ?_
 intro B a w F hB hfr hS
 have hll:=Sat.lenSl hS (i:=0) rfl
 refine wp_seq ?_
 refine Zb hS qB hB [2,0] [0] rfl rfl fun a w F hS=>Za (wp_seq (wp_seq ?_))
 refine Zb hS (qM rfl rfl (qu Tryz.underlying26 r1 (qf (ZaR .t qi) r1 qz qZ))) hB [7,2,0] [0] rfl rfl fun a w F hS=>Za ?_
 refine Zd hS rfl (fun hc0=>?_) (fun hc0=>?_)
 ·skip
  have hg:false=decide (Zfp l):=(decide_eq_false fun h9=>by have:=h9.1;simp at hc0;omega).symm
  refine wp_seq ?_
  refine Zb hS qB hB [2,0] [0] rfl rfl fun a w F hS=>Za (wp_ret (Zg ?_))
  refine Zr hfr hS rfl rfl rfl (.bool hg)
 have hl0:l.length≤40:=by simp at hc0;omega
 refine wp_skip (Za (wp_seq (wp_seq ?_)))
 refine Zb hS (qM rfl rfl (qu Tryz.underlying26 r1 (qJ qZ))) hB [10,9,8,2] [0] rfl rfl fun a w F hS=>Za (wp_block ?_)
 refine Zl (σ:=(Nat)) [2,8,9] [0] (fun s=>[(10,.pv (.int .i64 (s:Int)))]) (fun s=>[]) (fun s=>s≤l.length∧(∀ q,q<s→Zac (Go.Gm.nth l q))) (fun s=>l.length - s) (0) hS ⟨rfl,rfl,rfl,rfl,trivial⟩ ⟨rfl,trivial⟩ ⟨Nat.zero_le _,fun q hq=>absurd hq (Nat.not_lt_zero q)⟩ ?_
 clear hS;intro i a w F hC hS
 try dsimp only at hC
 obtain ⟨F,hS⟩:=hS.nm [10,9,8,2] [0] rfl rfl
 try dsimp only at hS
 obtain ⟨hi,hq⟩:=hC
 refine wp_seq ?_
 refine Zb hS (qL r2) hB [11,10,9,8,2] [0] rfl rfl fun a w F hS=>Za (wp_seq ?_)
 refine Zd hS rfl (fun hc1=>?_) (fun hc1=>?_)
 ·skip
  have hil:i<l.length:=by simp at hc1;omega
  have hio:=hil
  refine wp_skip (Za (wp_seq (wp_block (wp_seq ?_))))
  refine Zc hS (qy 10 Tryz.underlying26 r2 (qf (oR true 10 .t) r1 qz (qf (oH [.int .i64 0,.int .i64 0,.bool false,.slice none 0 0,.int .i64 0,.slice none 0 0,.int .i64 0,.int .i64 0,.int .i64 0,.int .i64 0] 101) trivial qz (qS 10 101 r2 r1 qZ)))) hB [10,9,8,4,2] [101,0] (fun _=>rfl) (fun _=>rfl) fun τ a w F hS=>?_
  try dsimp only [RS.sub,SF.sub,CF.sub,csub,Anc.sub,List.map,Zf,xL,xM,Nat.reduceAdd,xD,xE,xT,xU,xC,xN,zCF,ldSF,Zj,rTx,Zs,Zv,rInt,rOp,rCmd] at hS
  generalize τ 4=v4 at hS
  try simp only [Int.toNat_natCast] at hS
  refine Za (wp_seq ?_)
  refine Zb hS (qg 1 101 r1 r1 (qf (oF 2 101 .adr) r1 r1 (qa 101 r1 r1 (qu Tryz.underlying38 r1 (qf (ZaR .t qi) r1 qz (qM rfl rfl (qv 4 101 rfl r2 r1 (qk rfl (fun h=>oF 1 101 (.w h .adr)) r2 r1 (qw 101 rfl r2 r1 (qk rfl (fun h=>ZaS Tryz.underlying41 (.w h)) r2 qz (qk rfl (fun h=>ZaR (.w h) qi) r2 qz (qf (ZaI .t .t) r2 qz qZ)))))))))))) hB [25,10,9,8,2] [101,0] rfl rfl fun a w F hS=>Za ?_
  refine Zd hS rfl (fun hc2=>?_) (fun hc2=>?_)
  ·skip
   have hg:false=decide (Zfp l):=(decide_eq_false fun h9=>by have:=LightC.at h9 hio;unfold Zac at this;simp at hc2;omega).symm
   refine wp_seq ?_
   refine Zb hS qB hB [10,9,8,2] [101,0] rfl rfl fun a w F hS=>Za (wp_ret (Zm (Zg (Zg (Zm (Zg ?_))))))
   refine Zr hfr hS rfl rfl rfl (.bool hg)
  have hne:Zac (Go.Gm.nth l i):=by unfold Zac;simp at hc2;omega
  refine wp_skip (Zi (Za ?_))
  refine Zb hS (qp r1 (qM rfl rfl qZ)) hB [10,9,8,2] [101,0] rfl rfl fun a w F hS=>Za ?_
  replace hS:=hS.ent (i:=10) (s':=.pv (.int .i64 ((i+1:Nat):Int))) rfl (.int (Ze (by omega)))
  obtain ⟨F,hS⟩:=hS.nm [9,8,2,10] [0] rfl rfl
  exact ⟨(i+1),F,⟨by omega,(fun q h9=>by rcases Nat.lt_or_eq_of_le (Nat.le_of_lt_succ h9) with h8 | h8;exact hq q h8;rw [h8];exact hne)⟩,hS,by omega⟩
 have hil:i=l.length:=by simp at hc1;omega
 have hg:true=decide (Zfp l):=(decide_eq_true ⟨hl0,fun c hc=>by
   obtain ⟨j,hj,e⟩:=List.getElem_of_mem hc
   have:=hq j (by omega)
   rwa [Zz hj,e] at this⟩).symm
 refine wp_exit (Zk (Zk (Zq (Za (wp_seq ?_)))))
 refine Zb hS qB hB [2] [0] rfl rfl fun a w F hS=>Za (wp_ret ?_)
 refine Zr hfr hS rfl rfl rfl (.bool hg)
theorem plA:ZcJ 12 (⟨[(⟨1,true,[⟨false,5,0,0⟩]⟩:TxD)],[⟨5,[1]⟩]⟩:Zn):=⟨by decide,by decide,by decide⟩
theorem plB:ZcJ 12 (⟨[(⟨2,true,[⟨false,5,0,0⟩]⟩:TxD)],[⟨5,[2]⟩]⟩:Zn):=⟨by decide,by decide,by decide⟩
theorem plX:ZcJ 12 (⟨[(⟨1,true,[⟨false,5,0,0⟩]⟩:TxD)],[]⟩:Zn):=⟨by decide,by decide,by decide⟩
theorem plc:Zdy (⟨[(⟨1,true,[⟨false,5,0,0⟩]⟩:TxD)],[⟨5,[1]⟩]⟩:Zn) (⟨[(⟨2,true,[⟨false,5,0,0⟩]⟩:TxD)],[⟨5,[2]⟩]⟩:Zn)=(([Zeu (⟨1,true,[⟨false,5,0,0⟩]⟩:TxD),Zem (⟨2,true,[⟨false,5,0,0⟩]⟩:TxD)]:List CmdD),0):=by decide +kernel
theorem plm:ZQ (⟨[(⟨1,true,[⟨false,5,0,0⟩]⟩:TxD)],[⟨5,[1]⟩]⟩:Zn) ([Zeu (⟨1,true,[⟨false,5,0,0⟩]⟩:TxD),Zem (⟨2,true,[⟨false,5,0,0⟩]⟩:TxD)]:List CmdD) 0=((⟨[(⟨2,true,[⟨false,5,0,0⟩]⟩:TxD)],[⟨5,[2]⟩]⟩:Zn),2,0):=by decide +kernel
theorem plx:Zdy (⟨[(⟨1,true,[⟨false,5,0,0⟩]⟩:TxD)],[⟨5,[1]⟩]⟩:Zn) (⟨[(⟨1,true,[⟨false,5,0,0⟩]⟩:TxD)],[]⟩:Zn)=([],5):=by decide +kernel
theorem pls:Zdy (⟨[(⟨1,true,[⟨false,5,0,0⟩]⟩:TxD)],[⟨5,[1]⟩]⟩:Zn) (⟨[(⟨1,true,[⟨false,5,0,0⟩]⟩:TxD)],[⟨5,[1]⟩]⟩:Zn)=([],0):=by decide +kernel
theorem plz:ZQ (⟨[(⟨1,true,[⟨false,5,0,0⟩]⟩:TxD)],[⟨5,[1]⟩]⟩:Zn) ([({zeroC 3 with key:=0,id:=1} : CmdD),({zeroC 3 with key:=0,id:=1} : CmdD)]:List CmdD) 0=(zeroH,1,3):=by decide +kernel
theorem Zhn  : FnP Tryz.prog 9 [] (.bool true):=by
 refine FnP.mk Tryz.func9 rfl Tryz.ntmps9 rfl ?_
 intro B a w F hB hfr hS
 refine wp_seq ?_
 refine Zb hS qB hB [0] [0] rfl rfl fun a w F hS=>Za (wp_seq ?_)
 refine Zc hS (qf (oB [(1,_)] [.bool false,.int .i64 0,.int .i64 0,.int .i64 0] [(0,1),(1,1),(2,1),(3,1)] (.one rfl qi one_int (by kernel_rfl) .nil)) trivial qz (qf (Zh (sz:=4) (zs:=[.bool false,.int .i64 0,.int .i64 0,.int .i64 0]) (r:=[(0,.tmp 15)]) (l:=[_,_,_,_]) Tryz.underlying38 (by kernel_rfl) (by kernel_rfl) (by kernel_rfl) (by kernel_rfl) rfl rfl (.agg rfl .t (by kernel_rfl) (by kernel_rfl) .nil) rfl) r1 qz (qf (oB [(0,_),(1,_),(2,.tmp 16)] [.int .i64 0,.bool false,.slice none 0 0] [(0,1),(1,1),(2,1)] (.one rfl qi one_int (by kernel_rfl) (.one rfl .cb Zbx (by kernel_rfl) (.one rfl .t Zco (by kernel_rfl) .nil)))) r1 qz (qf (Zh (sz:=3) (zs:=[.int .i64 0,.bool false,.slice none 0 0]) (r:=[(0,.tmp 17)]) (l:=[_,_,_]) Tryz.underlying22 (by kernel_rfl) (by kernel_rfl) (by kernel_rfl) (by kernel_rfl) rfl rfl (.agg rfl .t (by kernel_rfl) (by kernel_rfl) .nil) rfl) r1 qz (qf (Zh (sz:=1) (zs:=[.int .i64 0]) (r:=[(0,_)]) (l:=[_]) Tryz.underlying41 (by kernel_rfl) (by kernel_rfl) (by kernel_rfl) (by kernel_rfl) rfl rfl (.one rfl qi one_int (by kernel_rfl) .nil) rfl) trivial qz (qf (oB [(0,_),(1,.tmp 19)] [.int .i64 0,.slice none 0 0] [(0,1),(1,1)] (.one rfl qi one_int (by kernel_rfl) (.one rfl .t Zco (by kernel_rfl) .nil))) r1 qz (qf (Zh (sz:=2) (zs:=[.int .i64 0,.slice none 0 0]) (r:=[(0,.tmp 20)]) (l:=[_,_]) Tryz.underlying23 (by kernel_rfl) (by kernel_rfl) (by kernel_rfl) (by kernel_rfl) rfl rfl (.agg rfl .t (by kernel_rfl) (by kernel_rfl) .nil) rfl) r1 qz (qf (oB [(0,.tmp 18),(1,.tmp 21)] [.slice none 0 0,.slice none 0 0] [(0,1),(1,1)] (.one rfl .t Zco (by kernel_rfl) (.one rfl .t Zco (by kernel_rfl) .nil))) r2 qz (qf (oH [.slice none 0 0,.slice none 0 0] 101) trivial qz (qS 2 101 r2 r1 qZ)))))))))) hB [1,0] [101,0] (fun _=>rfl) (fun _=>rfl) fun τ a w F hS=>?_
 try dsimp only [RS.sub,SF.sub,CF.sub,csub,Anc.sub,List.map,Zf,xL,xM,Nat.reduceAdd,xD,xE,xT,xU,xC,xN,zCF,Zj,rTx,Zs,Zv,rInt,rOp,rCmd,ZC,Zaj,ZH,Zu] at hS
 generalize τ 1=v1 at hS
 replace hS:=hS.turn 101 rfl (r':=.pt (.val v1) 25 [.pv (.sl rTx [(⟨1,true,[⟨false,5,0,0⟩]⟩:TxD)]),.pv (.sl Zs [⟨5,[1]⟩])]) (ZoH rfl rfl ⟨PVLe.arrSl (R:=rTx) (l':=[(⟨1,true,[⟨false,5,0,0⟩]⟩:TxD)]) rfl ⟨PVLe.refl,PVLe.refl,PVLe.arrSl (R:=rOp) (l':=[⟨false,5,0,0⟩]) rfl Zdo.refl,trivial⟩,PVLe.arrSl (R:=Zs) (l':=[⟨5,[1]⟩]) rfl ⟨PVLe.refl,PVLe.arrSl (R:=rInt) (l':=[1]) rfl Zdo.refl,trivial⟩,trivial⟩)
 obtain ⟨F,hS⟩:=hS.nm [1,0] [101,0] rfl rfl
 refine Za (wp_seq ?_)
 refine Zc hS (qf (oB [(1,_)] [.bool false,.int .i64 0,.int .i64 0,.int .i64 0] [(0,1),(1,1),(2,1),(3,1)] (.one rfl qi one_int (by kernel_rfl) .nil)) trivial qz (qf (Zh (sz:=4) (zs:=[.bool false,.int .i64 0,.int .i64 0,.int .i64 0]) (r:=[(0,.tmp 23)]) (l:=[_,_,_,_]) Tryz.underlying38 (by kernel_rfl) (by kernel_rfl) (by kernel_rfl) (by kernel_rfl) rfl rfl (.agg rfl .t (by kernel_rfl) (by kernel_rfl) .nil) rfl) r1 qz (qf (oB [(0,_),(1,_),(2,.tmp 24)] [.int .i64 0,.bool false,.slice none 0 0] [(0,1),(1,1),(2,1)] (.one rfl qi one_int (by kernel_rfl) (.one rfl .cb Zbx (by kernel_rfl) (.one rfl .t Zco (by kernel_rfl) .nil)))) r1 qz (qf (Zh (sz:=3) (zs:=[.int .i64 0,.bool false,.slice none 0 0]) (r:=[(0,.tmp 25)]) (l:=[_,_,_]) Tryz.underlying22 (by kernel_rfl) (by kernel_rfl) (by kernel_rfl) (by kernel_rfl) rfl rfl (.agg rfl .t (by kernel_rfl) (by kernel_rfl) .nil) rfl) r1 qz (qf (Zh (sz:=1) (zs:=[.int .i64 0]) (r:=[(0,_)]) (l:=[_]) Tryz.underlying41 (by kernel_rfl) (by kernel_rfl) (by kernel_rfl) (by kernel_rfl) rfl rfl (.one rfl qi one_int (by kernel_rfl) .nil) rfl) trivial qz (qf (oB [(0,_),(1,.tmp 27)] [.int .i64 0,.slice none 0 0] [(0,1),(1,1)] (.one rfl qi one_int (by kernel_rfl) (.one rfl .t Zco (by kernel_rfl) .nil))) r1 qz (qf (Zh (sz:=2) (zs:=[.int .i64 0,.slice none 0 0]) (r:=[(0,.tmp 28)]) (l:=[_,_]) Tryz.underlying23 (by kernel_rfl) (by kernel_rfl) (by kernel_rfl) (by kernel_rfl) rfl rfl (.agg rfl .t (by kernel_rfl) (by kernel_rfl) .nil) rfl) r1 qz (qf (oB [(0,.tmp 26),(1,.tmp 29)] [.slice none 0 0,.slice none 0 0] [(0,1),(1,1)] (.one rfl .t Zco (by kernel_rfl) (.one rfl .t Zco (by kernel_rfl) .nil))) r2 qz (qf (oH [.slice none 0 0,.slice none 0 0] 102) trivial qz (qS 2 102 r2 r1 qZ)))))))))) hB [2,1,0] [102,101,0] (fun _=>rfl) (fun _=>rfl) fun τ a w F hS=>?_
 try dsimp only [RS.sub,SF.sub,CF.sub,csub,Anc.sub,List.map,Zf,xL,xM,Nat.reduceAdd,xD,xE,xT,xU,xC,xN,zCF,Zj,rTx,Zs,Zv,rInt,rOp,rCmd,ZC,Zaj,ZH,Zu] at hS
 generalize τ 2=v2 at hS
 replace hS:=hS.turn 102 rfl (r':=.pt (.val v2) 25 [.pv (.sl rTx [(⟨2,true,[⟨false,5,0,0⟩]⟩:TxD)]),.pv (.sl Zs [⟨5,[2]⟩])]) (ZoH rfl rfl ⟨PVLe.arrSl (R:=rTx) (l':=[(⟨2,true,[⟨false,5,0,0⟩]⟩:TxD)]) rfl ⟨PVLe.refl,PVLe.refl,PVLe.arrSl (R:=rOp) (l':=[⟨false,5,0,0⟩]) rfl Zdo.refl,trivial⟩,PVLe.arrSl (R:=Zs) (l':=[⟨5,[2]⟩]) rfl ⟨PVLe.refl,PVLe.arrSl (R:=rInt) (l':=[2]) rfl Zdo.refl,trivial⟩,trivial⟩)
 obtain ⟨F,hS⟩:=hS.nm [2,1,0] [102,101,0] rfl rfl
 refine Za (wp_seq ?_)
 refine Zb hS (qe 2 101 r1 r1 (qe 2 102 r1 r1 (qf (oP (ZbU (⟨[(⟨1,true,[⟨false,5,0,0⟩]⟩:TxD)],[⟨5,[1]⟩]⟩:Zn) (⟨[(⟨2,true,[⟨false,5,0,0⟩]⟩:TxD)],[⟨5,[2]⟩]⟩:Zn) 12 (by decide) plA plB) Tryz.func10 (Args.two (.pagg .t) (.pagg .t))) r2 qz (qM rfl rfl (qf (o_extract .t rfl) r1 qz (qf (o_extract .t rfl) r1 qz (qN rfl rfl (qN rfl rfl qZ)))))))) hB [4,3,2,1,0] [102,101,0] rfl rfl fun a w F hS=>?_
 rw [plc] at hS
 dsimp only at hS
 refine Za (wp_seq ?_)
 refine Zc hS (qe 2 101 r1 r1 (qM rfl rfl (qf (oP (ZhY (⟨[(⟨1,true,[⟨false,5,0,0⟩]⟩:TxD)],[⟨5,[1]⟩]⟩:Zn) ([Zeu (⟨1,true,[⟨false,5,0,0⟩]⟩:TxD),Zem (⟨2,true,[⟨false,5,0,0⟩]⟩:TxD)]:List CmdD) 12 plA (by decide) (by decide)) Tryz.func12 (Args.two (.pagg .t) .t)) r2 qz (qM rfl rfl (qf (o_extract .t rfl) r1 qz (qf (o_extract .t rfl) r1 qz (qf (o_extract .t rfl) r1 qz (qf (oH [.slice none 0 0,.slice none 0 0] 103) trivial qz (qf (oA 2 103 .same (.conv .t .agg)) r2 r1 (qN rfl rfl (qN rfl rfl qZ))))))))))) hB [7,6,5,4,3,2,1,0] [103,102,101,0] (fun _=>rfl) (fun _=>rfl) fun τ a w F hS=>?_
 try dsimp only [RS.sub,SF.sub,CF.sub,csub,Anc.sub,List.map,Zf,xL,xM,Nat.reduceAdd,xD,xE,xT,xU,xC,xN,zCF,ldSF,Zj,rTx,Zs,Zv,rInt,rOp,rCmd,ZC,Zaj,ZH,Zu] at hS
 generalize τ 5=v5 at hS
 rw [plm] at hS
 dsimp only at hS
 refine Za (wp_seq ?_)
 refine Zb hS (qe 2 101 r1 r1 (qg 0 101 r1 r1 (qa 101 r1 r1 (qf (oB [(0,.tmp 47)] [.slice none 0 0,.slice none 0 0] [(0,1),(1,1)] (.one rfl .t one_sl (by kernel_rfl) .nil)) r1 qz (qf (oP (ZbU (⟨[(⟨1,true,[⟨false,5,0,0⟩]⟩:TxD)],[⟨5,[1]⟩]⟩:Zn) (⟨[(⟨1,true,[⟨false,5,0,0⟩]⟩:TxD)],[]⟩:Zn) 12 (by decide) plA plX) Tryz.func10 (Args.two (.pagg .t) (.conv (.pagg .t) (Ent.paggLe (l:=[.sl rTx [(⟨1,true,[⟨false,5,0,0⟩]⟩:TxD)],.is (.slice none 0 0)]) (l':=Zj (⟨[(⟨1,true,[⟨false,5,0,0⟩]⟩:TxD)],[]⟩:Zn)) ⟨PVLe.refl,PVLe.nilSl,trivial⟩)))) r2 qz (qM rfl rfl (qf (o_extract .t rfl) r1 qz (qf (o_extract .t rfl) r1 qz (qN rfl rfl (qN rfl rfl qZ)))))))))) hB [9,7,6,5,4,3,2,1,0] [103,102,101,0] rfl rfl fun a w F hS=>?_
 rw [plx] at hS
 dsimp only at hS
 refine Za (wp_seq ?_)
 refine Zb hS (qe 2 101 r1 r1 (qe 2 101 r1 r1 (qf (oP (ZbU (⟨[(⟨1,true,[⟨false,5,0,0⟩]⟩:TxD)],[⟨5,[1]⟩]⟩:Zn) (⟨[(⟨1,true,[⟨false,5,0,0⟩]⟩:TxD)],[⟨5,[1]⟩]⟩:Zn) 12 (by decide) plA plA) Tryz.func10 (Args.two (.pagg .t) (.pagg .t))) r2 qz (qM rfl rfl (qf (o_extract .t rfl) r1 qz (qf (o_extract .t rfl) r1 qz (qN rfl rfl (qN rfl rfl qZ)))))))) hB [11,10,9,7,6,5,4,3,2,1,0] [103,102,101,0] rfl rfl fun a w F hS=>?_
 rw [pls] at hS
 dsimp only at hS
 refine Za (wp_seq ?_)
 refine Zc hS (qe 2 101 r1 r1 (qf (oB [(0,_),(4,_)] [.int .i64 0,.int .i64 0,.bool false,.slice none 0 0,.int .i64 0,.slice none 0 0,.int .i64 0,.int .i64 0,.int .i64 0,.int .i64 0] [(0,1),(1,3),(4,2),(6,1),(7,1),(8,1),(9,1)] (.one rfl qi one_int (by kernel_rfl) (.one rfl qi one_int (by kernel_rfl) .nil))) trivial qz (qf (oB [(0,_),(4,_)] [.int .i64 0,.int .i64 0,.bool false,.slice none 0 0,.int .i64 0,.slice none 0 0,.int .i64 0,.int .i64 0,.int .i64 0,.int .i64 0] [(0,1),(1,3),(4,2),(6,1),(7,1),(8,1),(9,1)] (.one rfl qi one_int (by kernel_rfl) (.one rfl qi one_int (by kernel_rfl) .nil))) trivial qz (qf (Zh (sz:=10) (zs:=[.int .i64 0,.int .i64 0,.bool false,.slice none 0 0,.int .i64 0,.slice none 0 0,.int .i64 0,.int .i64 0,.int .i64 0,.int .i64 0]) (r:=[(0,.tmp 60),(1,.tmp 61)]) (l:=[_,_,_,_,_,_,_,_,_,_,_,_,_,_,_,_,_,_,_,_]) Tryz.underlying26 (by kernel_rfl) (by kernel_rfl) (by kernel_rfl) (by kernel_rfl) rfl rfl (.agg rfl .t (by kernel_rfl) (by kernel_rfl) (.agg rfl .t (by kernel_rfl) (by kernel_rfl) .nil)) rfl) r2 qz (qf (oP (ZhY (⟨[(⟨1,true,[⟨false,5,0,0⟩]⟩:TxD)],[⟨5,[1]⟩]⟩:Zn) ([({zeroC 3 with key:=0,id:=1} : CmdD),({zeroC 3 with key:=0,id:=1} : CmdD)]:List CmdD) 12 plA (by decide) (by decide)) Tryz.func12 (Args.two (.pagg .t) (.conv .t (entArr (l:=[.int .i64 3,.int .i64 0,.bool false,.is (.slice none 0 0),.int .i64 0,.is (.slice none 0 0),.int .i64 0,.int .i64 1,.int .i64 0,.int .i64 0,.int .i64 3,.int .i64 0,.bool false,.is (.slice none 0 0),.int .i64 0,.is (.slice none 0 0),.int .i64 0,.int .i64 1,.int .i64 0,.int .i64 0]) (R:=rCmd) (l':=[({zeroC 3 with key:=0,id:=1} : CmdD),({zeroC 3 with key:=0,id:=1} : CmdD)]) rfl ⟨PVLe.refl,PVLe.refl,PVLe.refl,PVLe.nilSl,PVLe.refl,PVLe.nilSl,PVLe.refl,PVLe.refl,PVLe.refl,PVLe.refl,PVLe.refl,PVLe.refl,PVLe.refl,PVLe.nilSl,PVLe.refl,PVLe.nilSl,PVLe.refl,PVLe.refl,PVLe.refl,PVLe.refl,trivial⟩)))) r2 qz (qM rfl rfl (qf (o_extract .t rfl) r1 qz (qf (o_extract .t rfl) r1 qz (qf (o_extract .t rfl) r1 qz (qf (oH [.slice none 0 0,.slice none 0 0] 104) trivial qz (qf (oA 2 104 .same (.conv .t .agg)) r2 r1 (qN rfl rfl (qN rfl rfl qZ))))))))))))) hB [14,13,11,10,9,7,6,5,4,3,2,0] [104,103,102,101,0] (fun _=>rfl) (fun _=>rfl) fun τ a w F hS=>?_
 try dsimp only [RS.sub,SF.sub,CF.sub,csub,Anc.sub,List.map,Zf,xL,xM,Nat.reduceAdd,xD,xE,xT,xU,xC,xN,zCF,ldSF,Zj,rTx,Zs,Zv,rInt,rOp,rCmd,ZC,Zaj,ZH,Zu] at hS
 generalize τ 12=v12 at hS
 rw [plz] at hS
 dsimp only at hS
 refine Za (wp_seq ?_)
 refine ZcU hS (by kernel_rfl) (nM rfl rfl (nf (o_eql .t (.ci (by kernel_rfl))) r1 trivial (nM rfl rfl (nm rfl rfl rfl rfl (nk rfl (fun h=>ZaS Tryz.underlying26 (.w h)) r2 trivial (nk rfl (fun h=>o_eql (.w h) (.ci (by kernel_rfl))) r2 trivial (nf (Zy .t .t) r2 trivial (nM rfl rfl (nm rfl rfl rfl rfl (nk rfl (fun h=>Z3 (sz:=10) (.mk Tryz.underlying26 (by kernel_rfl)) (by intro x;rfl) (.w h) (.ci (by kernel_rfl)) (by decide) (by decide)) r2 trivial (nk rfl (fun h=>Zbi (off:=0) (.w h) (by kernel_rfl)) r2 trivial (nk rfl (fun h=>Zd2 (ag:=false) (sz:=1) (.w h) (by kernel_rfl) (by kernel_rfl) (by kernel_rfl)) r2 trivial (nk rfl (fun h=>o_eql (.w h) (.ci (by kernel_rfl))) r2 trivial (nf (Zy .t .t) r2 trivial (nM rfl rfl (nm rfl rfl rfl rfl (nk rfl (fun h=>Z3 (sz:=10) (.mk Tryz.underlying26 (by kernel_rfl)) (by intro x;rfl) (.w h) (.ci (by kernel_rfl)) (by decide) (by decide)) r2 trivial (nk rfl (fun h=>Zbi (off:=0) (.w h) (by kernel_rfl)) r2 trivial (nk rfl (fun h=>Zd2 (ag:=false) (sz:=1) (.w h) (by kernel_rfl) (by kernel_rfl) (by kernel_rfl)) r2 trivial (nk rfl (fun h=>o_eql (.w h) (.ci (by kernel_rfl))) r2 trivial (nn [86,81,14,13,11,10,9,7,6,5,2,0] [104,103,102,101,0] rfl rfl (nf (Zy .t .t) r2 trivial (nM rfl rfl (nm rfl rfl rfl rfl (nk rfl (fun h=>o_eql (.w h) (.ci (by kernel_rfl))) r2 trivial (nf (Zy .t .t) r2 trivial (nM rfl rfl (nm rfl rfl rfl rfl (nk rfl (fun h=>o_eql (.w h) (.ci (by kernel_rfl))) r2 trivial (nf (Zy .t .t) r2 trivial (nM rfl rfl (nk rfl (fun h=>oL true 2 103 .is) r2 r1 (nk rfl (fun h=>oL true 2 102 .is) r2 r1 (nk rfl (fun h=>oP (Zf2 (⟨[(⟨2,true,[⟨false,5,0,0⟩]⟩:TxD)],[⟨5,[2]⟩]⟩:Zn) (⟨[(⟨2,true,[⟨false,5,0,0⟩]⟩:TxD)],[⟨5,[2]⟩]⟩:Zn)) Tryz.func15 (Args.two (.pagg (.w h)) (.pagg (.w h)))) r3 trivial (nf (Zy .t .t) r2 trivial (nM rfl rfl (nm rfl rfl rfl rfl (nk rfl (fun h=>o_eql (.w h) (.ci (by kernel_rfl))) r2 trivial (nf (Zy .t .t) r2 trivial (nM rfl rfl (nm rfl rfl rfl rfl (nn [106,105,14,13,11,0] [104,103,102,101,0] rfl rfl (nk rfl (fun h=>ZaS Tryz.underlying26 (.w h)) r2 trivial (nk rfl (fun h=>o_eql (.w h) (.ci (by kernel_rfl))) r2 trivial (nf (Zy .t .t) r2 trivial (nM rfl rfl (nm rfl rfl rfl rfl (nk rfl (fun h=>o_eql (.w h) (.ci (by kernel_rfl))) r2 trivial (nf (Zy .t .t) r2 trivial (nM rfl rfl (nm rfl rfl rfl rfl (nk rfl (fun h=>o_eql (.w h) (.ci (by kernel_rfl))) r2 trivial (nf (Zy .t .t) r2 trivial (nM rfl rfl (nm rfl rfl rfl rfl (nk rfl (fun h=>o_eql (.w h) (.ci (by kernel_rfl))) r2 trivial (nf (Zy .t .t) r2 trivial (nN rfl rfl ZW.nil)))))))))))))))))))))))))))))))))))))))))))))))))))))))))) (by kernel_rfl) (by rw [hB];kernel_rfl) fun a w F hS=>?_
 obtain ⟨F,hS⟩:=hS.nm [0] [104,103,102,101,0] rfl rfl
 try dsimp only [List.map,xD,xE,xT,xU,ldSF,Zj,rTx,Zs,Zv,rInt,rOp,rCmd,ZC,Zaj,ZH,Zu] at hS
 try simp only [Int.toNat_natCast] at hS
 refine Za (wp_ret ?_)
 refine Zr hfr hS rfl rfl rfl (.bool (by decide +kernel))
end Go.Proofs.YtjhapicamnijnaaGreat
