/- Texts put together. No condition beyond those that each theorem says. -/
import Derived.Test.YtjhapicamnijnaaGreatJ7
import Derived.Test.YtjhapicamnijnaaGreatJ4
import Derived.Test.YtjhapicamnijnaaGreatJ5
import Derived.Test.YtjhapicamnijnaaGreatJ3
import Derived.Test.YtjhapicamnijnaaGreatJ0
import Derived.Test.YtjhapicamnijnaaGreatJ1
import Derived.Test.YtjhapicamnijnaaGreatJ2
namespace Go.Proofs.YtjhapicamnijnaaGreat
open Go Go.Gm
set_option linter.unusedVariables false
set_option linter.unusedSimpArgs false
set_option maxHeartbeats 4000000
set_option maxRecDepth 8000
theorem Zjj (g:HistD) (l:List CmdD) (n:Nat) (hp:ZdD n g) (hnl:n+l.length≤166) (hlt:∀ c ∈ l,ZaO c):FnP Tryz.prog 12 [.agg (Zk g),.sl rCmd l] (.tup [.agg (Zk (playC g l 0).1),.int .i64 (((playC g l 0).2.1:Nat):Int),.int .i64 (playC g l 0).2.2]):=by
 refine FnP.mk Tryz.func12 rfl Tryz.ntmps12 rfl ?_
 intro B a w F hB hfr hS
 refine wp_seq ?_
 refine Zc hS (qx 101 r1 (qf (oH [.slice none 0 0,.slice none 0 0] 102) trivial qz (qI (qI qZ)))) hB [6,5,4,2,1] [102,101,0] (fun _=>rfl) (fun _=>rfl) fun τ a w F hS=>?_
 try dsimp only [RS.sub,SF.sub,CF.sub,csub,Anc.sub,List.map,zCF,Zk,rTx,Zs,ZG,rInt,rOp,rCmd,ZH,ZaJ,ZQ,ZA] at hS
 generalize τ 2=v2 at hS
 generalize τ 4=v4 at hS
 refine Zb (wp_seq (wp_seq ?_))
 refine Za hS (qM rfl rfl (qu Tryz.underlying26 r1 (qJ qZ))) hB [13,12,11,6,5,4,2,1] [102,101,0] rfl rfl fun a w F hS=>Zb (wp_block ?_)
 refine Zo (σ:=(Nat)×(HistD)) [1,2,4,5,6,11,12] [0,102] (fun s=>[(13,.pv (.int .i64 (s.1:Int)))]) (fun s=>[(101,.pt (.val v2) 25 [.pv (.sl rTx (s.2).txs),.pv (.sl Zs (s.2).orders)])]) (fun s=>s.1≤l.length∧(playC g l 0=playC s.2 (l.drop s.1) s.1∧ZdD (n+s.1) s.2)) (fun s=>l.length - s.1) ((0),(g)) hS ⟨rfl,rfl,rfl,rfl,rfl,rfl,rfl,rfl,trivial⟩ ⟨rfl,rfl,rfl,trivial⟩ ⟨Nat.zero_le _,⟨rfl,hp⟩⟩ ?_
 clear hS;intro s a w F hC hS
 obtain ⟨i,gg⟩:=s
 try dsimp only at hC
 obtain ⟨F,hS⟩:=hS.nm [13,12,11,6,5,4,2,1] [102,101,0] rfl rfl
 try dsimp only at hS
 obtain ⟨hi,hq⟩:=hC
 obtain ⟨hpc,hfit⟩:=hq
 refine wp_seq ?_
 refine Za hS (qL r2) hB [14,13,12,11,6,5,4,2,1] [102,101,0] rfl rfl fun a w F hS=>Zb (wp_seq ?_)
 refine Zd hS rfl (fun hc0=>?_) (fun hc0=>?_)
 ·skip
  have hil:i<l.length:=by simp at hc0;omega
  have hio:=hil
  refine wp_skip (Zb (wp_seq (wp_block (wp_seq ?_))))
  refine Zc hS (qM rfl rfl (qy 10 Tryz.underlying26 r2 (qf (oR true 10 .t) r1 qz (qf (oH [.int .i64 0,.int .i64 0,.bool false,.slice none 0 0,.int .i64 0,.slice none 0 0,.int .i64 0,.int .i64 0,.int .i64 0,.int .i64 0] 103) trivial qz (qN rfl rfl (qS 10 103 r2 r1 qZ)))))) hB [13,12,11,8,7,6,5,4,2,1] [103,102,101,0] (fun _=>rfl) (fun _=>rfl) fun τ a w F hS=>?_
  try dsimp only [RS.sub,SF.sub,CF.sub,csub,Anc.sub,List.map,Zf,xL,xM,Nat.reduceAdd,xD,xE,xT,xU,xC,xN,zCF,ldSF,Zk,rTx,Zs,ZG,rInt,rOp,rCmd,ZH,ZaJ,ZQ,ZA] at hS
  generalize τ 8=v8 at hS
  try simp only [Int.toNat_natCast] at hS
  refine Zb (wp_seq ?_)
  refine Zc hS (qe 2 101 r1 r1 (qe 10 103 r1 r1 (qf (oP (Zdr gg (Go.Gm.nth l i) hfit.1 (hlt _ (ZR hio))) Tryz.func25 (Args.two (.pagg .t) (.pagg .t))) r2 qz (qM rfl rfl (qf (o_extract .t rfl) r1 qz (qf (o_extract .t rfl) r1 qz (qf (oH [.slice none 0 0,.slice none 0 0] 104) trivial qz (qf (oA 2 104 .same (.conv .t .agg)) r2 r1 (qN rfl rfl qZ))))))))) hB [13,12,11,10,9,7,6,5,4,2,1] [104,103,102,101,0] (fun _=>rfl) (fun _=>rfl) fun τ a w F hS=>?_
  try dsimp only [RS.sub,SF.sub,CF.sub,csub,Anc.sub,List.map,Zf,xL,xM,Nat.reduceAdd,xD,xE,xT,xU,xC,xN,zCF,ldSF,Zk,rTx,Zs,ZG,rInt,rOp,rCmd,ZH,ZaJ,ZQ,ZA] at hS
  generalize τ 9=v9 at hS
  refine Zb (wp_seq (wp_seq ?_))
  refine Za hS (qM rfl rfl (qf (o_neq .t qi) r1 qz qZ)) hB [25,13,12,11,10,9,7,6,5,4,2,1] [104,103,102,101,0] rfl rfl fun a w F hS=>Zb ?_
  refine Zd hS rfl (fun hc1=>?_) (fun hc1=>?_)
  ·skip
   have hg:=ZfA hpc hio (by simpa using hc1)
   refine wp_seq ?_
   refine Za hS (qf (oB [] [.slice none 0 0,.slice none 0 0] [(0,1),(1,1)] .nil) trivial qz (qM rfl rfl (qM rfl rfl (qs 2 102 r2 r1 (qN rfl rfl (qN rfl rfl qZ)))))) hB [13,12,11,9,6,5,4,2,1] [104,103,102,101,0] rfl rfl fun a w F hS=>Zb (wp_ret (Zg (Zl (Zg (Zg (Zl (Zg ?_)))))))
   refine ZI hfr hS rfl (.cl 102 true 2 rfl rfl (.tmp rfl (.tmp rfl .nil))) (.three (by rw [hg];first | exact .aggU rfl rfl | exact .aggLe rfl ⟨PVLe.nilSl,PVLe.nilSl,trivial⟩) (.int (by rw [hg])) (.int (by rw [hg])))
  have hok:¬ (ZN gg (Go.Gm.nth l i)).2≠0:=by simpa using hc1
  refine wp_skip (Zb ?_)
  refine Za hS (qe 2 104 r1 r1 (qs 2 101 r2 r1 qZ)) hB [13,12,11,6,5,4,2,1] [104,103,102,101,0] rfl rfl fun a w F hS=>Zi (Zb ?_)
  refine Za hS (qp r1 (qM rfl rfl qZ)) hB [13,12,11,6,5,4,2,1] [104,103,102,101,0] rfl rfl fun a w F hS=>Zb ?_
  replace hS:=hS.ent (i:=13) (s':=.pv (.int .i64 ((i+1:Nat):Int))) rfl (.int (Ze (by omega)))
  obtain ⟨F,hS⟩:=hS.nm [12,11,6,5,4,2,1,13] [102,0,101] rfl rfl
  exact ⟨((i+1),((ZN gg (Go.Gm.nth l i)).1)),F,⟨by omega,⟨Zed hpc hio hok,hfit.edit (by omega) (hlt _ (ZR hio)) hok⟩⟩,hS,by omega⟩
 have hil:i=l.length:=by simp at hc0;omega
 have hg:=Zfr hpc hil
 refine wp_exit (Zj (Zj (Zp (Zb (wp_seq ?_)))))
 refine Za hS (qe 2 101 r1 r1 (qf (oP (Zkr gg hfit.1) Tryz.func39 (Args.one (.pagg .t))) r1 qz (qM rfl rfl (qu Tryz.underlying26 r1 (qf (oA 2 102 .is (.conv .t .agg)) r2 r1 (qN rfl rfl (qI qZ))))))) hB [6,5,4] [102,101,0] rfl rfl fun a w F hS=>Zb (wp_ret ?_)
 refine ZI hfr hS rfl (.cl 102 true 2 rfl rfl (.tmp rfl (.tmp rfl .nil))) (.three (by rw [hg];first | exact .aggU rfl rfl | exact .aggLe rfl ⟨PVLe.nilSl,PVLe.nilSl,trivial⟩) (.int (by rw [hg])) (.int (by rw [hg])))
theorem Zoi (v:Value) (g:HistD) (l:List CmdD) (n:Nat) (hp:ZdD n g) (hnl:n+l.length≤166) (hlt:∀ c ∈ l,ZaO c):FnG Tryz.prog 12 1 [.agg (Zk g),.is v] [Zx 45 10 rCmd l v] (.tup [.agg (Zk (playC g l 0).1),.int .i64 (((playC g l 0).2.1:Nat):Int),.int .i64 (playC g l 0).2.2]) (fun _=>[Zx 45 10 rCmd l v]):=by
 refine FnG.mk Tryz.func12 rfl Tryz.ntmps12 rfl (by kernel_rfl) ?_
 intro B F0 a w F hB hG hS
 have hS:=hS.turn 1 rfl (r':=RS.ob (.val v) (Zx 45 10 rCmd l)) (fun _ _ _ _ h=>h)
 obtain ⟨F,hS⟩:=hS.nm [1,0] [1,0] rfl rfl
 refine wp_seq ?_
 refine Zc hS (qx 101 r1 (qf (oH [.slice none 0 0,.slice none 0 0] 102) trivial qz (qI (qI qZ)))) hB [6,5,4,2,1] [102,101,1,0] (fun _=>rfl) (fun _=>rfl) fun τ a w F hS=>?_
 try dsimp only [RS.sub,SF.sub,CF.sub,csub,Anc.sub,List.map,zCF,Zk,rTx,Zs,ZG,rInt,rOp,rCmd,ZH,ZaJ,ZQ,ZA] at hS
 generalize τ 2=v2 at hS
 generalize τ 4=v4 at hS
 refine Zb (wp_seq (wp_seq ?_))
 refine Za hS (qM rfl rfl (qf (ZV 1 Tryz.underlying26 .is) r1 r1 (qJ qZ))) hB [13,12,11,6,5,4,2,1] [102,101,1,0] rfl rfl fun a w F hS=>Zb (wp_block ?_)
 refine Zo (σ:=(Nat)×(HistD)) [1,2,4,5,6,11,12] [0,1,102] (fun s=>[(13,.pv (.int .i64 (s.1:Int)))]) (fun s=>[(101,.pt (.val v2) 25 [.pv (.sl rTx (s.2).txs),.pv (.sl Zs (s.2).orders)])]) (fun s=>s.1≤l.length∧(playC g l 0=playC s.2 (l.drop s.1) s.1∧ZdD (n+s.1) s.2)) (fun s=>l.length - s.1) ((0),(g)) hS ⟨rfl,rfl,rfl,rfl,rfl,rfl,rfl,rfl,trivial⟩ ⟨rfl,rfl,rfl,rfl,trivial⟩ ⟨Nat.zero_le _,⟨rfl,hp⟩⟩ ?_
 clear hS;intro s a w F hC hS
 obtain ⟨i,gg⟩:=s
 try dsimp only at hC
 obtain ⟨F,hS⟩:=hS.nm [13,12,11,6,5,4,2,1] [102,101,1,0] rfl rfl
 try dsimp only at hS
 obtain ⟨hi,hq⟩:=hC
 obtain ⟨hpc,hfit⟩:=hq
 refine wp_seq ?_
 refine Za hS (qL r2) hB [14,13,12,11,6,5,4,2,1] [102,101,1,0] rfl rfl fun a w F hS=>Zb (wp_seq ?_)
 refine Zd hS rfl (fun hc0=>?_) (fun hc0=>?_)
 ·skip
  have hil:i<l.length:=by simp at hc0;omega
  have hio:=hil
  refine wp_skip (Zb (wp_seq (wp_block (wp_seq ?_))))
  refine Zc hS (qM rfl rfl (qf (o_indexAddr_row (sz:=10) 1 (.mk Tryz.underlying26 (by kernel_rfl)) .is .t (by omega) (by omega) (by rfl)) r2 r1 (qf (Zar (ag:=true) (sz':=10) (sz:=10) 1 .t (by intro x;rfl) (by omega) (by kernel_rfl) (by kernel_rfl) (by kernel_rfl)) r1 r1 (qf (oH [.int .i64 0,.int .i64 0,.bool false,.slice none 0 0,.int .i64 0,.slice none 0 0,.int .i64 0,.int .i64 0,.int .i64 0,.int .i64 0] 103) trivial qz (qN rfl rfl (qS 10 103 r2 r1 qZ)))))) hB [13,12,11,8,7,6,5,4,2,1] [103,102,101,1,0] (fun _=>rfl) (fun _=>rfl) fun τ a w F hS=>?_
  try dsimp only [RS.sub,SF.sub,CF.sub,csub,Anc.sub,List.map,Zf,xL,xM,Nat.reduceAdd,xD,xE,xT,xU,xC,xN,zCF,ldSF,Zk,rTx,Zs,ZG,rInt,rOp,rCmd,ZH,ZaJ,ZQ,ZA] at hS
  generalize τ 8=v8 at hS
  try simp only [Int.toNat_natCast] at hS
  refine Zb (wp_seq ?_)
  refine Zc hS (qe 2 101 r1 r1 (qe 10 103 r1 r1 (qf (oP (Zdr gg (Go.Gm.nth l i) hfit.1 (hlt _ (ZR hio))) Tryz.func25 (Args.two (.pagg .t) (.pagg .t))) r2 qz (qM rfl rfl (qf (o_extract .t rfl) r1 qz (qf (o_extract .t rfl) r1 qz (qf (oH [.slice none 0 0,.slice none 0 0] 104) trivial qz (qf (oA 2 104 .same (.conv .t .agg)) r2 r1 (qN rfl rfl qZ))))))))) hB [13,12,11,10,9,7,6,5,4,2,1] [104,103,102,101,1,0] (fun _=>rfl) (fun _=>rfl) fun τ a w F hS=>?_
  try dsimp only [RS.sub,SF.sub,CF.sub,csub,Anc.sub,List.map,Zf,xL,xM,Nat.reduceAdd,xD,xE,xT,xU,xC,xN,zCF,ldSF,Zk,rTx,Zs,ZG,rInt,rOp,rCmd,ZH,ZaJ,ZQ,ZA] at hS
  generalize τ 9=v9 at hS
  refine Zb (wp_seq (wp_seq ?_))
  refine Za hS (qM rfl rfl (qf (o_neq .t qi) r1 qz qZ)) hB [25,13,12,11,10,9,7,6,5,4,2,1] [104,103,102,101,1,0] rfl rfl fun a w F hS=>Zb ?_
  refine Zd hS rfl (fun hc1=>?_) (fun hc1=>?_)
  ·skip
   have hg:=ZfA hpc hio (by simpa using hc1)
   refine wp_seq ?_
   refine Za hS (qf (oB [] [.slice none 0 0,.slice none 0 0] [(0,1),(1,1)] .nil) trivial qz (qM rfl rfl (qM rfl rfl (qs 2 102 r2 r1 (qN rfl rfl (qN rfl rfl qZ)))))) hB [13,12,11,9,6,5,4,2,1] [104,103,102,101,1,0] rfl rfl fun a w F hS=>Zb (wp_ret (Zg (Zl (Zg (Zg (Zl (Zg ?_)))))))
   have hS:=hS.turn 1 rfl (r':=RS.hp (Zx 45 10 rCmd l v)) (fun _ _ _ _ h=>h)
   refine ZbD hG hS rfl (.cl 102 true 2 rfl rfl (.tmp rfl (.tmp rfl .nil))) (.three (by rw [hg];first | exact .aggU rfl rfl | exact .aggLe rfl ⟨PVLe.nilSl,PVLe.nilSl,trivial⟩) (.int (by rw [hg])) (.int (by rw [hg]))) rfl
  have hok:¬ (ZN gg (Go.Gm.nth l i)).2≠0:=by simpa using hc1
  refine wp_skip (Zb ?_)
  refine Za hS (qe 2 104 r1 r1 (qs 2 101 r2 r1 qZ)) hB [13,12,11,6,5,4,2,1] [104,103,102,101,1,0] rfl rfl fun a w F hS=>Zi (Zb ?_)
  refine Za hS (qp r1 (qM rfl rfl qZ)) hB [13,12,11,6,5,4,2,1] [104,103,102,101,1,0] rfl rfl fun a w F hS=>Zb ?_
  replace hS:=hS.ent (i:=13) (s':=.pv (.int .i64 ((i+1:Nat):Int))) rfl (.int (Ze (by omega)))
  obtain ⟨F,hS⟩:=hS.nm [12,11,6,5,4,2,1,13] [102,1,0,101] rfl rfl
  exact ⟨((i+1),((ZN gg (Go.Gm.nth l i)).1)),F,⟨by omega,⟨Zed hpc hio hok,hfit.edit (by omega) (hlt _ (ZR hio)) hok⟩⟩,hS,by omega⟩
 have hil:i=l.length:=by simp at hc0;omega
 have hg:=Zfr hpc hil
 refine wp_exit (Zj (Zj (Zp (Zb (wp_seq ?_)))))
 refine Za hS (qe 2 101 r1 r1 (qf (oP (Zkr gg hfit.1) Tryz.func39 (Args.one (.pagg .t))) r1 qz (qM rfl rfl (qf (ZV 1 Tryz.underlying26 .is) r1 r1 (qf (oA 2 102 .is (.conv .t .agg)) r2 r1 (qN rfl rfl (qI qZ))))))) hB [6,5,4] [102,101,1,0] rfl rfl fun a w F hS=>Zb (wp_ret ?_)
 have hS:=hS.turn 1 rfl (r':=RS.hp (Zx 45 10 rCmd l v)) (fun _ _ _ _ h=>h)
 refine ZbD hG hS rfl (.cl 102 true 2 rfl rfl (.tmp rfl (.tmp rfl .nil))) (.three (by rw [hg];first | exact .aggU rfl rfl | exact .aggLe rfl ⟨PVLe.nilSl,PVLe.nilSl,trivial⟩) (.int (by rw [hg])) (.int (by rw [hg]))) rfl
theorem ZbC (g o:HistD) (n:Nat) (hn:n≤27) (hg0:ZdD n g) (ho0:ZdD n o):FnP Tryz.prog 10 [.agg (Zk g),.agg (Zk o)] (.tup [.sl rCmd (Zb4 g o).1,.int .i64 (Zb4 g o).2]):=by
 refine FnP.mk Tryz.func10 rfl Tryz.ntmps10 rfl ?_
 intro B a w F hB hfr hS
 have hst:=hg0.1.1
 have hso:=ho0.1.2
 have hos:=ho0.1.2.1
 have hsg:=hg0.1.1
 obtain ⟨hfn,hfl,hpl⟩:=hg0.first ho0 (by omega)
 have hfc:(ZJ g o).length≤166:=by omega
 have hsf:=Zdl g o
 have hfs9:(List.map List.length (Zas g o)).sum=(Zas g o).flatten.length:=by rw [List.length_flatten]
 have hgl:=hg0.2.1
 have hol9:=ho0.2.1
 refine wp_seq ?_
 refine Zc hS (qx 101 r1 (qx 102 r1 (qC (qI qZ)))) hB [5,4,3,2] [102,101,0] (fun _=>rfl) (fun _=>rfl) fun τ a w F hS=>?_
 try dsimp only [RS.sub,SF.sub,CF.sub,csub,Anc.sub,List.map,zCF,Zk,rTx,Zs,ZG,rInt,rOp,rCmd,ZH,ZaJ,ZQ,ZA,Zdb] at hS
 generalize τ 2=v2 at hS
 generalize τ 3=v3 at hS
 refine Zb (wp_seq (wp_seq ?_))
 refine Za hS (qe 2 101 r1 r1 (qf (oP (ZbL g hg0.1) Tryz.func16 (Args.one (.pagg .t))) r1 qz (qf (o_not .t) r1 qz (qM rfl rfl (qk rfl (fun h=>oL true 2 102 .is) r2 r1 (qk rfl (fun h=>oP (ZbL o ho0.1) Tryz.func16 (Args.one (.pagg (.w h)))) r2 qz (qk rfl (fun h=>o_not (.w h)) r2 qz (qf (ZaL .t .t) r2 qz qZ)))))))) hB [25,5,4,3,2] [102,101,0] rfl rfl fun a w F hS=>Zb ?_
 refine Zd hS rfl (fun hc0=>?_) (fun hc0=>?_)
 ·skip
  have hr:¬ Zu g∨¬ Zu o:=by have h9:=hc0;simp at h9;first | exact h9 | exact Classical.or_iff_not_imp_left.2 (fun k=>h9 (Classical.not_not.1 k))
  refine wp_seq ?_
  refine Za hS (qC (qI qZ)) hB [5,4,3,2] [102,101,0] rfl rfl fun a w F hS=>Zb (wp_ret (Zg ?_))
  refine ZI hfr hS rfl (.tmp rfl (.tmp rfl .nil)) (.two (.trans .nilSl (.sl (by first | rw [ZdK hr] | (rw [ZdI hr,hq,hil,List.take_length])))) (.int (by first | rw [ZdK hr] | rw [ZdI hr])))
 have hr:¬ (¬ Zu g∨¬ Zu o):=by have h9:=hc0;simp at h9;first | exact h9 | simpa using h9
 refine wp_skip (Zb (wp_seq ?_))
 refine Za hS (qC qZ) hB [6,5,4,3,2] [102,101,0] rfl rfl fun a w F hS=>Zb (wp_seq (wp_seq ?_))
 refine Za hS (qe 2 101 r1 r1 (qe 2 102 r1 r1 (qf (oP (ZpE g o hst ho0.1.1) Tryz.func31 (Args.two (.pagg .t) (.pagg .t))) r2 qz (qu Tryz.underlying60 r1 (qJ qZ))))) hB [30,29,28,6,5,4,3,2] [102,101,0] rfl rfl fun a w F hS=>Zb (wp_block ?_)
 replace hS:=hS.fresh 50 rfl
 replace hS:=hS.turn 50 rfl (Zav (T:=45) (sz:=10) (R:=rCmd))
 refine Zo (σ:=(Nat)×(Value)×(List CmdD)) [2,3,4,5,28,29] [0,101,102] (fun s=>[(30,.pv (.int .i64 (s.1:Int))),(6,.pv (.is s.2.1))]) (fun s=>[(50,.ob (.val s.2.1) (Zx 45 10 rCmd s.2.2))]) (fun s=>s.1≤(Zas g o).flatten.length∧(s.2.2=((Zas g o).flatten.take s.1).map Zcq)) (fun s=>(Zas g o).flatten.length - s.1) ((0),(.slice none 0 0),([])) hS ⟨rfl,rfl,rfl,rfl,rfl,rfl,rfl,rfl,trivial⟩ ⟨rfl,rfl,rfl,rfl,trivial⟩ ⟨Nat.zero_le _,rfl⟩ ?_
 clear hS;intro s a w F hC hS
 obtain ⟨i,v,out⟩:=s
 try dsimp only at hC
 obtain ⟨F,hS⟩:=hS.nm [30,29,28,6,5,4,3,2] [102,101,50,0] rfl rfl
 try dsimp only at hS
 obtain ⟨hi,hq⟩:=hC
 have hol:out.length≤i:=by rw [hq,List.length_map,List.length_take];omega
 refine wp_seq ?_
 refine Za hS (qL r2) hB [31,30,29,28,6,5,4,3,2] [102,101,50,0] rfl rfl fun a w F hS=>Zb (wp_seq ?_)
 refine Zd hS rfl (fun hc1=>?_) (fun hc1=>?_)
 ·skip
  have hil:i<(Zas g o).flatten.length:=by simp at hc1;omega
  have hio:=hil
  refine wp_skip (Zb (wp_seq (wp_block (wp_seq ?_))))
  refine Za hS (qy 1 Tryz.underlying60 r2 (qf (oR false 1 .t) r1 qz (qN rfl rfl qZ))) hB [30,29,28,8,6,5,4,3,2] [102,101,50,0] rfl rfl fun a w F hS=>?_
  try simp only [Int.toNat_natCast] at hS
  refine Zb ?_
  refine Zc hS (qM rfl rfl (qM rfl rfl (qf (oP (Zmp (Go.Gm.nth (Zas g o).flatten i) (ZlJ (ZR hio)) (by have h9:=Zl2 (n:=1000) (fun t ht=>Nat.le_trans (hg0.2.2 t ht) (by omega)) (fun t ht=>Nat.le_trans (ho0.2.2 t ht) (by omega)) (ZR hio);exact h9)) Tryz.func32 (Args.one .t)) r1 qz (qf (Zh (sz:=10) (zs:=[.int .i64 0,.int .i64 0,.bool false,.slice none 0 0,.int .i64 0,.slice none 0 0,.int .i64 0,.int .i64 0,.int .i64 0,.int .i64 0]) (r:=[(0,.tmp 36)]) (l:=[_,_,_,_,_,_,_,_,_,_]) Tryz.underlying26 (by kernel_rfl) (by kernel_rfl) (by kernel_rfl) (by kernel_rfl) rfl rfl (.agg rfl (.conv .t .agg) (by kernel_rfl) (by kernel_rfl) .nil) rfl) r1 qz (qf (o_append (sz:=10) (bs:=112) 50 (.mk' Tryz.underlying26 (by kernel_rfl) (by kernel_rfl)) (by intro x;rfl) .is (.arr (l':=[Zcq (Go.Gm.nth (Zas g o).flatten i)]) .t) (by simp only [List.length_append,List.length_cons,List.length_nil];omega) (by decide)) ⟨rfl,rfl,trivial⟩ ⟨rfl,trivial⟩ (qN rfl rfl qZ)))))) hB [30,29,28,6,5,4,3,2] [102,101,50,0] (fun _=>rfl) (fun _=>rfl) fun τ a w F hS=>?_
  try dsimp only [RS.sub,SF.sub,CF.sub,csub,Anc.sub,List.map,Zf,xL,xM,Nat.reduceAdd,xD,xE,xT,xU,xC,xN,zCF,Zk,rTx,Zs,ZG,rInt,rOp,rCmd,ZH,ZaJ,ZQ,ZA,Zdb] at hS
  generalize τ 38=v38 at hS
  refine Zi (Zb ?_)
  refine Za hS (qp r1 (qM rfl rfl qZ)) hB [30,29,28,6,5,4,3,2] [102,101,50,0] rfl rfl fun a w F hS=>Zb ?_
  replace hS:=hS.ent (i:=30) (s':=.pv (.int .i64 ((i+1:Nat):Int))) rfl (.int (Ze (by omega)))
  obtain ⟨F,hS⟩:=hS.nm [29,28,5,4,3,2,6,30] [102,101,0,50] rfl rfl
  exact ⟨((i+1),_,_),F,⟨by omega,(by rw [Zb5 hio,hq])⟩,hS,by omega⟩
 have hil:i=(Zas g o).flatten.length:=by simp at hc1;omega
 have hqe:out=ZJ g o:=by rw [hq,hil,List.take_length,ZfO]
 subst hqe
 refine wp_exit (Zj (Zj (Zp (Zb (wp_seq ?_)))))
 refine Zc hS (qe 2 101 r1 r1 (qM rfl rfl (qf (ZcF 50 (Zoi v g (ZJ g o) n hg0 hfn hfl) Tryz.func12 rfl (by kernel_rfl) (Args.two (.pagg .t) .t)) r2 r1 (qM rfl rfl (qf (o_extract .t rfl) r1 qz (qf (o_extract .t rfl) r1 qz (qf (o_extract .t rfl) r1 qz (qf (oH [.slice none 0 0,.slice none 0 0] 103) trivial qz (qf (oA 2 103 .same (.conv .t .agg)) r2 r1 (qN rfl rfl (qN rfl rfl qZ))))))))))) hB [9,6,5,4,3] [103,102,101,50,0] (fun _=>rfl) (fun _=>rfl) fun τ a w F hS=>?_
 try dsimp only [RS.sub,SF.sub,CF.sub,csub,Anc.sub,List.map,Zf,xL,xM,Nat.reduceAdd,xD,xE,xT,xU,xC,xN,zCF,ldSF,Zk,rTx,Zs,ZG,rInt,rOp,rCmd,ZH,ZaJ,ZQ,ZA,Zdb] at hS
 generalize τ 9=v9 at hS
 refine Zb (wp_seq (wp_seq ?_))
 refine Za hS (qg 1 102 r1 r1 (qa 102 r1 r1 (qu Tryz.underlying23 r1 (qJ qZ)))) hB [50,49,48,9,6,5,4] [103,102,101,50,0] rfl rfl fun a w F hS=>Zb (wp_block ?_)
 refine Zo (σ:=(Nat)×(Value)×(List CmdD)) [4,5,9,48,49] [0,101,102,103] (fun s=>[(50,.pv (.int .i64 (s.1:Int))),(6,.pv (.is s.2.1))]) (fun s=>[(50,.ob (.val s.2.1) (Zx 45 10 rCmd s.2.2))]) (fun s=>s.1≤o.orders.length∧(s.2.2=ZJ g o++(o.orders.take s.1).flatMap (mvC (playC g (ZJ g o) 0).1))) (fun s=>o.orders.length - s.1) ((0),(v),((ZJ g o))) hS ⟨rfl,rfl,rfl,rfl,rfl,rfl,rfl,trivial⟩ ⟨rfl,rfl,rfl,rfl,rfl,trivial⟩ ⟨Nat.zero_le _,(by simp)⟩ ?_
 clear hS;intro s a w F hC hS
 obtain ⟨i,v,out⟩:=s
 try dsimp only at hC
 obtain ⟨F,hS⟩:=hS.nm [50,49,48,9,6,5,4] [103,102,101,50,0] rfl rfl
 try dsimp only at hS
 obtain ⟨hi,hq⟩:=hC
 have hqo:=hq
 have hol:out.length≤200+1000*i:=by
   rw [hq,List.length_append]
   have h1:=ZpK (h:=(playC g (ZJ g o) 0).1) hso i
   omega
 refine wp_seq ?_
 refine Za hS (qL r2) hB [51,50,49,48,9,6,5,4] [103,102,101,50,0] rfl rfl fun a w F hS=>Zb (wp_seq ?_)
 refine Zd hS rfl (fun hc2=>?_) (fun hc2=>?_)
 ·skip
  have hil:i<o.orders.length:=by simp at hc2;omega
  have hio:=hil
  have hoo:=hso.at hio
  have hsh:=Zcj (getO (playC g (ZJ g o) 0).1.orders (Go.Gm.nth o.orders i).key) (Go.Gm.nth o.orders i).txs
  refine wp_skip (Zb (wp_seq (wp_block (wp_seq ?_))))
  refine Zc hS (qy 2 Tryz.underlying23 r2 (qf (oR true 2 .t) r1 qz (qf (oH [.int .i64 0,.slice none 0 0] 104) trivial qz (qS 2 104 r2 r1 qZ)))) hB [50,49,48,13,9,6,5,4] [104,103,102,101,50,0] (fun _=>rfl) (fun _=>rfl) fun τ a w F hS=>?_
  try dsimp only [RS.sub,SF.sub,CF.sub,csub,Anc.sub,List.map,Zf,xL,xM,Nat.reduceAdd,xD,xE,xT,xU,xC,xN,zCF,ldSF,Zk,rTx,Zs,ZG,rInt,rOp,rCmd,ZH,ZaJ,ZQ,ZA,Zdb] at hS
  generalize τ 13=v13 at hS
  try simp only [Int.toNat_natCast] at hS
  refine Zb (wp_seq ?_)
  refine ZC hS (qe 2 103 r1 r1 (qg 0 104 r1 r1 (qa 104 r1 r1 (qf (oP (Zom (playC g (ZJ g o) 0).1 (Go.Gm.nth o.orders i).key hpl.2) Tryz.func34 (Args.two (.pagg .t) .t)) r2 qz (qg 1 104 r1 r1 (qa 104 r1 r1 (qf (oP (ZkR (getO (playC g (ZJ g o) 0).1.orders (Go.Gm.nth o.orders i).key) (Go.Gm.nth o.orders i).txs (Nat.le_trans (ZoJ hpl.2 _) (by omega)) (by omega)) Tryz.func33 (Args.two .t .t)) r2 qz (qM rfl rfl (qf (o_extract .t rfl) r1 qz (qf (o_extract .t rfl) r1 qz (qN rfl rfl (qN rfl rfl qZ)))))))))))) hB [50,49,48,14,13,9,6,5,4] [104,103,102,101,50,0] rfl rfl fun a w F hS=>?_
  try dsimp only [List.map,xD,xE,xT,xU,ldSF,Zk,rTx,Zs,ZG,rInt,rOp,rCmd,ZH,ZaJ,ZQ,ZA,Zdb] at hS
  refine Zb (wp_seq ?_)
  refine Za hS (qM rfl rfl (qu Tryz.underlying65 r1 (qJ qZ))) hB [66,65,64,50,49,48,13,9,6,5,4] [104,103,102,101,50,0] rfl rfl fun a w F hS=>Zb (wp_block ?_)
  refine Zo (σ:=(Nat)×(Value)×(List CmdD)) [4,5,9,13,48,49,50,64,65] [0,101,102,103,104] (fun s=>[(66,.pv (.int .i64 (s.1:Int))),(6,.pv (.is s.2.1))]) (fun s=>[(50,.ob (.val s.2.1) (Zx 45 10 rCmd s.2.2))]) (fun s=>s.1≤(Zak (getO (playC g (ZJ g o) 0).1.orders (Go.Gm.nth o.orders i).key) (Go.Gm.nth o.orders i).txs).1.length∧(s.2.2=out++((Zak (getO (playC g (ZJ g o) 0).1.orders (Go.Gm.nth o.orders i).key) (Go.Gm.nth o.orders i).txs).1.take s.1).map (Zh2 (Go.Gm.nth o.orders i).key))) (fun s=>(Zak (getO (playC g (ZJ g o) 0).1.orders (Go.Gm.nth o.orders i).key) (Go.Gm.nth o.orders i).txs).1.length - s.1) ((0),(v),(out)) hS ⟨rfl,rfl,rfl,rfl,rfl,rfl,rfl,rfl,rfl,rfl,rfl,trivial⟩ ⟨rfl,rfl,rfl,rfl,rfl,rfl,trivial⟩ ⟨Nat.zero_le _,(by simp)⟩ ?_
  clear hS;intro s a w F hC hS
  obtain ⟨k,v,out2⟩:=s
  try dsimp only at hC
  obtain ⟨F,hS⟩:=hS.nm [66,65,64,50,49,48,13,9,6,5,4] [104,103,102,101,50,0] rfl rfl
  try dsimp only at hS
  obtain ⟨hi,hq⟩:=hC
  have hq2:=hq
  have hol2:out2.length≤out.length+k:=by rw [hq2,List.length_append,List.length_map,List.length_take];omega
  refine wp_seq ?_
  refine Za hS (qL r2) hB [67,66,65,64,50,49,48,13,9,6,5,4] [104,103,102,101,50,0] rfl rfl fun a w F hS=>Zb (wp_seq ?_)
  refine Zd hS rfl (fun hc3=>?_) (fun hc3=>?_)
  ·skip
   have hil:k<(Zak (getO (playC g (ZJ g o) 0).1.orders (Go.Gm.nth o.orders i).key) (Go.Gm.nth o.orders i).txs).1.length:=by simp at hc3;omega
   have hko:=hil
   refine wp_skip (Zb (wp_seq (wp_block (wp_seq ?_))))
   refine Zc hS (qy 2 Tryz.underlying65 r2 (qf (oR true 2 .t) r1 qz (qf (oH [.int .i64 0,.int .i64 0] 105) trivial qz (qS 2 105 r2 r1 qZ)))) hB [66,65,64,50,49,48,17,13,9,6,5,4] [105,104,103,102,101,50,0] (fun _=>rfl) (fun _=>rfl) fun τ a w F hS=>?_
   try dsimp only [RS.sub,SF.sub,CF.sub,csub,Anc.sub,List.map,Zf,xL,xM,Nat.reduceAdd,xD,xE,xT,xU,xC,xN,zCF,ldSF,Zk,rTx,Zs,ZG,rInt,rOp,rCmd,ZH,ZaJ,ZQ,ZA,Zdb] at hS
   generalize τ 17=v17 at hS
   try simp only [Int.toNat_natCast] at hS
   refine Zb ?_
   refine Zc hS (qM rfl rfl (qg 0 104 r1 r1 (qa 104 r1 r1 (qg 0 105 r1 r1 (qa 105 r1 r1 (qg 1 105 r1 r1 (qa 105 r1 r1 (qf (oB [(0,_),(3,.tmp 72),(4,.tmp 74),(5,.tmp 76)] [.int .i64 0,.int .i64 0,.bool false,.slice none 0 0,.int .i64 0,.slice none 0 0,.int .i64 0,.int .i64 0,.int .i64 0,.int .i64 0] [(0,1),(1,3),(4,2),(6,1),(7,1),(8,1),(9,1)] (.one rfl qi one_int (by kernel_rfl) (.one rfl .t one_int (by kernel_rfl) (.one rfl .t one_int (by kernel_rfl) (.one rfl .t one_int (by kernel_rfl) .nil))))) r3 qz (qf (Zh (sz:=10) (zs:=[.int .i64 0,.int .i64 0,.bool false,.slice none 0 0,.int .i64 0,.slice none 0 0,.int .i64 0,.int .i64 0,.int .i64 0,.int .i64 0]) (r:=[(0,.tmp 77)]) (l:=[_,_,_,_,_,_,_,_,_,_]) Tryz.underlying26 (by kernel_rfl) (by kernel_rfl) (by kernel_rfl) (by kernel_rfl) rfl rfl (.agg rfl .t (by kernel_rfl) (by kernel_rfl) .nil) rfl) r1 qz (qf (o_append (sz:=10) (bs:=112) 50 (.mk' Tryz.underlying26 (by kernel_rfl) (by kernel_rfl)) (by intro x;rfl) .is (.sl (.conv .t (entArr (l:=[.int .i64 5,.int .i64 0,.bool false,.is (.slice none 0 0),.int .i64 0,.is (.slice none 0 0),.int .i64 (Go.Gm.nth o.orders i).key,.int .i64 (Go.Gm.nth (Zak (getO (playC g (ZJ g o) 0).1.orders (Go.Gm.nth o.orders i).key) (Go.Gm.nth o.orders i).txs).1 k).key,.int .i64 (Go.Gm.nth (Zak (getO (playC g (ZJ g o) 0).1.orders (Go.Gm.nth o.orders i).key) (Go.Gm.nth o.orders i).txs).1 k).val,.int .i64 0]) (R:=rCmd) (l':=[Zh2 (Go.Gm.nth o.orders i).key (Go.Gm.nth (Zak (getO (playC g (ZJ g o) 0).1.orders (Go.Gm.nth o.orders i).key) (Go.Gm.nth o.orders i).txs).1 k)]) rfl ⟨PVLe.refl,PVLe.refl,PVLe.refl,PVLe.nilSl,PVLe.refl,PVLe.nilSl,PVLe.refl,PVLe.refl,PVLe.refl,PVLe.refl,trivial⟩))) (by simp only [List.length_append,List.length_cons,List.length_nil];omega) (by decide)) ⟨rfl,rfl,trivial⟩ ⟨rfl,trivial⟩ (qN rfl rfl qZ))))))))))) hB [66,65,64,50,49,48,13,9,6,5,4] [105,104,103,102,101,50,0] (fun _=>rfl) (fun _=>rfl) fun τ a w F hS=>?_
   try dsimp only [RS.sub,SF.sub,CF.sub,csub,Anc.sub,List.map,Zf,xL,xM,Nat.reduceAdd,xD,xE,xT,xU,xC,xN,zCF,ldSF,Zk,rTx,Zs,ZG,rInt,rOp,rCmd,ZH,ZaJ,ZQ,ZA,Zdb] at hS
   generalize τ 79=v79 at hS
   refine Zi (Zb ?_)
   refine Za hS (qp r1 (qM rfl rfl qZ)) hB [66,65,64,50,49,48,13,9,6,5,4] [105,104,103,102,101,50,0] rfl rfl fun a w F hS=>Zb ?_
   replace hS:=hS.ent (i:=66) (s':=.pv (.int .i64 ((k+1:Nat):Int))) rfl (.int (Ze (by omega)))
   obtain ⟨F,hS⟩:=hS.nm [65,64,50,49,48,13,9,5,4,6,66] [104,103,102,101,0,50] rfl rfl
   exact ⟨((k+1),_,_),F,⟨by omega,(by rw [Zb5 hko,hq2,List.append_assoc])⟩,hS,by omega⟩
  have hil:k=(Zak (getO (playC g (ZJ g o) 0).1.orders (Go.Gm.nth o.orders i).key) (Go.Gm.nth o.orders i).txs).1.length:=by simp at hc3;omega
  have hil2:=hil
  refine wp_exit (Zj (Zj (Zp (Zi (Zb ?_)))))
  refine Za hS (qp r1 (qM rfl rfl qZ)) hB [50,49,48,9,6,5,4] [104,103,102,101,50,0] rfl rfl fun a w F hS=>Zb ?_
  replace hS:=hS.ent (i:=50) (s':=.pv (.int .i64 ((i+1:Nat):Int))) rfl (.int (Ze (by omega)))
  obtain ⟨F,hS⟩:=hS.nm [49,48,9,5,4,6,50] [103,102,101,0,50] rfl rfl
  exact ⟨((i+1),_,(out2)),F,⟨by omega,(by rw [hq2,hil2,List.take_length];exact ZnO hqo hio)⟩,hS,by omega⟩
 have hil:i=o.orders.length:=by simp at hc2;omega
 refine wp_exit (Zj (Zj (Zp (Zb (wp_seq ?_)))))
 refine Za hS (qM rfl rfl (qN rfl rfl (qI qZ))) hB [5,4] [103,102,101,50,0] rfl rfl fun a w F hS=>Zb (wp_ret ?_)
 obtain ⟨F,hS⟩:=hS.give 50 4 rfl rfl
 refine ZI hfr hS rfl (.tmp rfl (.tmp rfl .nil)) (.two (.sl (by first | rw [ZdK hr] | (rw [ZdI hr,hq,hil,List.take_length]))) (.int (by first | rw [ZdK hr] | rw [ZdI hr])))
theorem ZlV (c:CmdD) (hc:c.order.txs.length≤998):FnP Tryz.prog 66 [.agg (rCmd c)] (.bool (Za9 c)):=by
 refine FnP.mk Tryz.func66 rfl Tryz.ntmps66 rfl ?_
 intro B a w F hB hfr hS
 have hnl:(Zb1 c).length=c.order.txs.length+5:=by unfold Zb1;rw [List.length_append];simp only [List.length_cons,List.length_nil];omega
 refine wp_seq ?_
 refine Zc hS (qx 101 r1 qB) hB [2,1] [101,0] (fun _=>rfl) (fun _=>rfl) fun τ a w F hS=>?_
 try dsimp only [RS.sub,SF.sub,CF.sub,csub,Anc.sub,List.map,zCF] at hS
 generalize τ 1=v1 at hS
 refine Zb (wp_seq (wp_seq ?_))
 refine ZC hS (qg 0 101 r1 r1 (qa 101 r1 r1 (qf (oP (Zpc c.kind) Tryz.func67 (Args.one .t)) r1 qz (qf (Zk9 (ft:=9) (off:=0) (by kernel_rfl) (by kernel_rfl) .t rfl) r1 qz (qf (Zj8 Tryz.underlying9 .t (.cs (by kernel_rfl))) r1 qz (qM rfl rfl (qk rfl (fun h=>oL true 10 101 .is) r2 r1 (qk rfl (fun h=>oL true 10 101 .is) r2 r1 (qk rfl (fun h=>oP (ZqF c) Tryz.func134 (Args.one (.pagg (.w h)))) r2 qz (qk rfl (fun h=>oP (Znr c (usedR c)) Tryz.func133 (Args.two (.pagg (.w h)) (.w h))) r3 qz (qk rfl (fun h=>o_not (.w h)) r2 qz (qf (ZaL .t .t) r2 qz (qM rfl rfl (qv 1 101 rfl r2 r1 (qk rfl (fun h=>oF 2 101 (.w h .adr)) r2 r1 (qw 101 rfl r2 r1 (qk rfl (fun h=>Z8 Tryz.underlying38 (.w h)) r2 qz (qk rfl (fun h=>o_gtr (.w h) qi) r2 qz (qf (ZaL .t .t) r2 qz (qM rfl rfl (qv 0 101 rfl r2 r1 (qw 101 rfl r2 r1 (qk rfl (fun h=>o_eql (.w h) qi) r2 qz (qk rfl (fun h=>oM (.w h)) r2 qz (ZP.cons (ZeV.cond2 rfl rfl (fun h=>Zbb (off:=9) 101 .is (by kernel_rfl) (by rfl))) r2 r1 (ZP.cons (ZeV.cond2 rfl rfl (fun h=>Zfk (ag:=false) (sz:=1) 101 (.w h .adr) (by kernel_rfl) (by kernel_rfl) (by kernel_rfl) (by rfl))) r2 r1 (ZP.cons (ZeV.cond2 rfl rfl (fun h=>Zmu (Zo2 c.phen) Tryz.func71 rfl (by kernel_rfl) (Args.one (.w h)))) r2 qz (ZP.cons (ZeV.cond2 rfl rfl (fun h=>Zj8 Tryz.underlying9 (.w h) (.cs (by kernel_rfl)))) r2 qz (qk rfl (fun h=>ZB (.w h) (.wc h)) r3 qz (qf (ZaL .t .t) r2 qz qZ)))))))))))))))))))))))))))))) hB [37,2,1] [101,0] rfl rfl fun a w F hS=>?_
 try dsimp only [List.map,xD,xE,xT,xU,ldSF] at hS
 refine Zb ?_
 refine Zd hS rfl (fun hc0=>?_) (fun hc0=>?_)
 ·skip
  have hg:false=Za9 c:=by
    unfold Za9
    have hx:¬ Zlu c:=by
      rintro ⟨g1,g2,g3,g4⟩
      simp only [Bool.or_eq_true,Bool.and_eq_true,decide_eq_true_eq,Bool.not_eq_true',decide_eq_false_iff_not] at hc0
      rcases hc0 with ((hx | hx) | hx) | hx
      · exact g1 hx
      · exact hx g2
      · omega
      · exact g4 hx
    rw [decide_eq_false hx]
    rfl
  refine wp_seq ?_
  refine Za hS qB hB [2,1] [101,0] rfl rfl fun a w F hS=>Zb (wp_ret (Zg ?_))
  refine Zq hfr hS rfl rfl rfl (.bool hg)
 have hhd:Zlu c:=by
   rw [Bool.eq_false_iff] at hc0
   refine ⟨fun g=>hc0 ?_,Classical.byContradiction fun g=>hc0 ?_,Nat.le_of_not_lt fun g=>hc0 ?_,fun g=>hc0 ?_⟩
   · simp only [Bool.or_eq_true,Bool.and_eq_true,decide_eq_true_eq,Bool.not_eq_true',decide_eq_false_iff_not];exact .inl (.inl (.inl g))
   · simp only [Bool.or_eq_true,Bool.and_eq_true,decide_eq_true_eq,Bool.not_eq_true',decide_eq_false_iff_not];exact .inl (.inl (.inr g))
   · simp only [Bool.or_eq_true,Bool.and_eq_true,decide_eq_true_eq,Bool.not_eq_true',decide_eq_false_iff_not];exact .inl (.inr (by omega))
   · simp only [Bool.or_eq_true,Bool.and_eq_true,decide_eq_true_eq,Bool.not_eq_true',decide_eq_false_iff_not];exact .inr g
 have hol:=hhd.2.2.1
 refine wp_skip (Zb (wp_seq ?_))
 refine Zc hS (qg 1 101 r1 r1 (qf (oF 0 101 .adr) r1 r1 (qa 101 r1 r1 (qg 7 101 r1 r1 (qa 101 r1 r1 (qg 4 101 r1 r1 (qf (oF 0 101 .adr) r1 r1 (qa 101 r1 r1 (qg 6 101 r1 r1 (qa 101 r1 r1 (qg 8 101 r1 r1 (qa 101 r1 r1 (qf (Zee (R:=rInt) (l:=[c.tx.id,c.id,c.order.key,c.key,c.place]) (sz:=1) (zs:=[.int .i64 0]) (r:=[(0,.tmp 40),(1,.tmp 42),(2,.tmp 45),(3,.tmp 47),(4,.tmp 49)]) 102 Tryz.underlying41 (by kernel_rfl) (by kernel_rfl) (by kernel_rfl) (by kernel_rfl) rfl rfl (.one rfl .t one_int (by kernel_rfl) (.one rfl .t one_int (by kernel_rfl) (.one rfl .t one_int (by kernel_rfl) (.one rfl .t one_int (by kernel_rfl) (.one rfl .t one_int (by kernel_rfl) .nil))))) rfl rfl (by intro x;rfl)) r5 qz (qg 4 101 r1 r1 (qf (oF 1 101 .adr) r1 r1 (qa 101 r1 r1 (qf (o_append (sz:=1) (bs:=8) 102 (.mk' Tryz.underlying41 (by kernel_rfl) (by kernel_rfl)) (by intro x;rfl) .same (.sl .t) (by simp only [List.length_cons,List.length_nil];omega) (by decide)) ⟨rfl,rfl,trivial⟩ ⟨rfl,trivial⟩ (qN rfl rfl qZ)))))))))))))))))) hB [3,2,1] [102,101,0] (fun _=>rfl) (fun _=>rfl) fun τ a w F hS=>?_
 try dsimp only [RS.sub,SF.sub,CF.sub,csub,Anc.sub,List.map,Zf,xL,xM,Nat.reduceAdd,xD,xE,xT,xU,xC,xN,zCF,ldSF] at hS
 generalize τ 54=v54 at hS
 refine Zb (wp_seq (wp_seq ?_))
 obtain ⟨F,hS⟩:=hS.give 102 3 rfl rfl
 obtain ⟨F,hS⟩:=hS.nm [3,2,1] [101,0] rfl rfl
 refine Za hS (qM rfl rfl (qu Tryz.underlying41 r1 (qJ qZ))) hB [57,56,55,2,1] [101,0] rfl rfl fun a w F hS=>Zb (wp_block ?_)
 obtain ⟨F,hS⟩:=hS.nm [57,56,55,1] [101,0] rfl rfl
 refine Z7 (σ:=Nat) (fun s=>(⟨[(1,.pv (.is v1)),(55,.pv (.sl rInt (Zb1 c))),(56,.pv (.int .i64 ((Zb1 c).length:Nat))),(57,.pv (.int .i64 (s:Nat)))],[(0,frame B),(101,.pt (.val v1) 45 [.pv (.int .i64 c.kind),.pv (.int .i64 c.tx.id),.pv (.bool c.tx.done),.pv (.sl rOp c.tx.ops),.pv (.int .i64 c.order.key),.pv (.sl rInt c.order.txs),.pv (.int .i64 c.key),.pv (.int .i64 c.id),.pv (.int .i64 c.place),.pv (.int .i64 c.phen)])]⟩:En)) (fun s=>s≤(Zb1 c).length ∧ ∀ j,j<s→Zo6 (nth (Zb1 c) j)=true) (fun s=>(Zb1 c).length - s) 0 hS ⟨Nat.zero_le _,fun j hj=>absurd hj (Nat.not_lt_zero _)⟩ ?_
 clear hS;intro i a w F hC hS
 try dsimp only at hC
 try dsimp only at hS
 obtain ⟨hi0,hq⟩:=hC
 refine wp_seq ?_
 refine Za hS (qL r2) hB [58,57,56,55,1] [101,0] rfl rfl fun a w F hS=>Zb (wp_seq ?_)
 refine Zd hS rfl (fun hc1=>?_) (fun hc1=>?_)
 ·skip
  have hi:i<(Zb1 c).length:=by have h9:=of_decide_eq_true hc1;omega
  refine wp_skip (Zb (wp_seq (wp_block (wp_seq ?_))))
  refine Za hS (qy 1 Tryz.underlying41 r2 (qf (oR false 1 .t) r1 qz (qN rfl rfl qZ))) hB [57,56,55,5,1] [101,0] rfl rfl fun a w F hS=>Zb (wp_seq ?_)
  refine Za hS (qM rfl rfl (qf (Zcr .t qi) r1 qz (qM rfl rfl (qm rfl rfl rfl rfl (qk rfl (fun h=>o_gtr (.w h) qi) r2 qz (qf (ZaL .t .t) r2 qz qZ)))))) hB [66,57,56,55,1] [101,0] rfl rfl fun a w F hS=>Zb ?_
  refine Zd hS rfl (fun hc2=>?_) (fun hc2=>?_)
  ·skip
   have hg:false=Za9 c:=by
     unfold Za9
     have hx:¬ (Zb1 c).all Zo6=true:=by
       intro h
       rw [List.all_eq_true] at h
       have h9:=h _ (ZR hi)
       rw [ZhT] at h9
       rw [Int.toNat_natCast] at hc2
       simp only [Bool.or_eq_true,decide_eq_true_eq] at hc2
       omega
     rw [Bool.eq_false_iff.2 hx]
     simp
   refine wp_seq ?_
   refine Za hS qB hB [57,56,55,2,1] [101,0] rfl rfl fun a w F hS=>Zb (wp_ret (Zl (Zg (Zg (Zl (Zg ?_))))))
   refine Zq hfr hS rfl rfl rfl (.bool hg)
  have hqi:Zo6 (nth (Zb1 c) i)=true:=by
    rw [Int.toNat_natCast] at hc2
    rw [ZhT]
    simp only [Bool.or_eq_false_iff,decide_eq_false_iff_not] at hc2
    omega
  refine wp_skip (Zi (Zb ?_))
  refine Za hS (qp r1 (qM rfl rfl qZ)) hB [57,56,55,1] [101,0] rfl rfl fun a w F hS=>Zb ?_
  replace hS:=hS.ent (i:=57) (s':=.pv (.int .i64 ((i+1:Nat):Int))) rfl (.int (Ze (by omega)))
  obtain ⟨F,hS⟩:=hS.nm [57,56,55,1] [101,0] rfl rfl
  exact ⟨i+1,F,⟨by omega,fun j hj=>(Nat.lt_or_ge j i).elim (hq j) (fun h1=>(show i=j by omega) ▸ hqi)⟩,hS,by omega⟩
 have halln:(Zb1 c).all Zo6=true:=by
   rw [List.all_eq_true]
   intro x hx
   obtain ⟨j,hj,rfl⟩:=List.getElem_of_mem hx
   rw [← Zt hj]
   exact hq j (by have h9:=of_decide_eq_false hc1;omega)
 refine wp_exit (Zj (Zj (Zp (Zb (wp_seq (wp_seq ?_))))))
 refine Za hS (qg 1 101 r1 r1 (qf (oF 2 101 .adr) r1 r1 (qa 101 r1 r1 (qu Tryz.underlying38 r1 (qJ qZ))))) hB [72,71,70] [101,0] rfl rfl fun a w F hS=>Zb (wp_block ?_)
 obtain ⟨F,hS⟩:=hS.nm [72,71,70] [0] rfl rfl
 refine Z7 (σ:=Nat) (fun s=>(⟨[(70,.pv (.sl rOp c.tx.ops)),(71,.pv (.int .i64 (c.tx.ops.length:Nat))),(72,.pv (.int .i64 (s:Nat)))],[(0,frame B)]⟩:En)) (fun s=>s≤c.tx.ops.length ∧ ∀ j,j<s→Zaf (nth c.tx.ops j)=true) (fun s=>c.tx.ops.length - s) 0 hS ⟨Nat.zero_le _,fun j hj=>absurd hj (Nat.not_lt_zero _)⟩ ?_
 clear hS;intro k a w F hC hS
 try dsimp only at hC
 try dsimp only at hS
 obtain ⟨hk0,hqo⟩:=hC
 refine wp_seq ?_
 refine Za hS (qL r2) hB [73,72,71,70] [0] rfl rfl fun a w F hS=>Zb (wp_seq ?_)
 refine Zd hS rfl (fun hc3=>?_) (fun hc3=>?_)
 ·skip
  have hi:k<c.tx.ops.length:=by have h9:=of_decide_eq_true hc3;omega
  refine wp_skip (Zb (wp_seq (wp_block (wp_seq ?_))))
  refine Zc hS (qy 4 Tryz.underlying38 r2 (qf (oR true 4 .t) r1 qz (qf (oH [.bool false,.int .i64 0,.int .i64 0,.int .i64 0] 103) trivial qz (qS 4 103 r2 r1 qZ)))) hB [72,71,70,7] [103,0] (fun _=>rfl) (fun _=>rfl) fun τ a w F hS=>?_
  try dsimp only [RS.sub,SF.sub,CF.sub,csub,Anc.sub,List.map,Zf,xL,xM,Nat.reduceAdd,xD,xE,xT,xU,xC,xN,zCF,ldSF] at hS
  generalize τ 7=v7 at hS
  rw [Int.toNat_natCast] at hS
  refine Zb (wp_seq ?_)
  refine Za hS (qe 4 103 r1 r1 (qf (oP (ZfZ (nth c.tx.ops k)) Tryz.func97 (Args.one (.pagg .t))) r1 qz (qf (o_neq .t qi) r1 qz qZ))) hB [78,72,71,70] [0] rfl rfl fun a w F hS=>Zb ?_
  refine Zd hS rfl (fun hc4=>?_) (fun hc4=>?_)
  ·skip
   have hg:false=Za9 c:=by
     unfold Za9
     have hx:¬ c.tx.ops.all Zaf=true:=by
       intro h
       rw [List.all_eq_true] at h
       have h9:=h _ (ZR hi)
       rw [Zld.2 h9] at hc4
       simp at hc4
     rw [Bool.eq_false_iff.2 hx]
     simp
   refine wp_seq ?_
   refine Za hS qB hB [72,71,70,2] [0] rfl rfl fun a w F hS=>Zb (wp_ret (Zl (Zg (Zg (Zl (Zg ?_))))))
   refine Zq hfr hS rfl rfl rfl (.bool hg)
  have hqi:Zaf (nth c.tx.ops k)=true:=Zld.1 (by simpa using hc4)
  refine wp_skip (Zi (Zb ?_))
  refine Za hS (qp r1 (qM rfl rfl qZ)) hB [72,71,70] [0] rfl rfl fun a w F hS=>Zb ?_
  replace hS:=hS.ent (i:=72) (s':=.pv (.int .i64 ((k+1:Nat):Int))) rfl (.int (Ze (by omega)))
  obtain ⟨F,hS⟩:=hS.nm [72,71,70] [0] rfl rfl
  exact ⟨k+1,F,⟨by omega,fun j hj=>(Nat.lt_or_ge j k).elim (hqo j) (fun h1=>(show k=j by omega) ▸ hqi)⟩,hS,by omega⟩
 have hallo:c.tx.ops.all Zaf=true:=by
   rw [List.all_eq_true]
   intro x hx
   obtain ⟨j,hj,rfl⟩:=List.getElem_of_mem hx
   rw [← Zt hj]
   exact hqo j (by have h9:=of_decide_eq_false hc3;omega)
 have hg:true=Za9 c:=by unfold Za9;rw [decide_eq_true hhd,halln,hallo];rfl
 refine wp_exit (Zj (Zj (Zp (Zb (wp_seq ?_)))))
 refine Za hS qB hB [2] [0] rfl rfl fun a w F hS=>Zb (wp_ret ?_)
 refine Zq hfr hS rfl rfl rfl (.bool hg)
theorem ZbQ (k:Int):(Z3 k).s.length≤4:=by
 rcases Classical.em (1≤k∧k≤12) with h | h
 · rcases kinds h with rfl | rfl | rfl | rfl | rfl | rfl | rfl | rfl | rfl | rfl | rfl | rfl <;> decide +kernel
 · have:(Z3 k).s = []:=Classical.byContradiction fun hx=>h (Znv hx)
   rw [this];simp
theorem Zoy (p:Int):(Zcs p).length≤3:=by
 rcases Classical.em (Zcs p = []) with h | h
 · rw [h];simp
 · have:=(ZmI h).1
   have:p=1∨p=2∨p=3∨p=4∨p=5:=by omega
   rcases this with rfl | rfl | rfl | rfl | rfl <;> decide +kernel
theorem Zdj (l:List Int) (h:∀ n ∈ l,-9223372036854775808≤n∧n≤9223372036854775807):∀ i,i≤l.length→(Zaj l i).length≤22*i
 | 0,_=>by simp [Zaj]
 | i+1,hi=>by
   have h1:=Zdj l h i (by omega)
   have h2:=Zae (h _ (ZR (show i<l.length by omega)))
   rw [Zaj,List.length_append,List.length_append]
   split <;> simp only [List.length_cons,List.length_nil] <;> omega
theorem ZoH {c:CmdD} (h:Za9 c=true):∀ n ∈ Zb1 c,0≤n∧n≤2147483647:=by
 unfold Za9 at h
 simp only [Bool.and_eq_true] at h
 intro n hn
 exact ZhT.1 (List.all_eq_true.1 h.2.1 n hn)
theorem Zdn {c:CmdD} (h:Za9 c=true):Zlu c:=by
 unfold Za9 at h
 simp only [Bool.and_eq_true] at h
 exact of_decide_eq_true h.1
theorem Zml (t:TxD) (h:0≤t.id∧t.id≤2147483647) (h2:t.ops.length≤4095):(Zdc t).length≤500000:=by
 have h1:=Zae (n:=t.id) (by omega)
 have h3:=Ze1 t.ops
 unfold Zdc Zb7
 rw [List.length_append,List.length_append]
 split <;> simp only [List.length_cons,List.length_nil] <;> omega
theorem Z6 {c:CmdD} (h:Za9 c=true) (hc:c.order.txs.length≤998):(ZaN c).length≤1∧sumL (ZaN c)≤500000:=by
 have hr:=ZoH h
 have hh:=(Zdn h).2.2.1
 have m1:c.tx.id ∈ Zb1 c:=by unfold Zb1;simp
 have m2:c.id ∈ Zb1 c:=by unfold Zb1;simp
 unfold ZaN
 split
 · have:=Zml c.tx (hr _ m1) hh
   exact ⟨Nat.le_refl _,by simpa [sumL] using this⟩
 · split
   · have:=Zae (n:=c.id) (by have:=hr _ m2;omega)
     exact ⟨Nat.le_refl _,by simp [sumL];omega⟩
   · split
     · have:=Zdj (c.order.key :: c.order.txs) (fun n hn=>by have:=hr n (by unfold Zb1;simp at hn ⊢;rcases hn with rfl | hn;exact .inr (.inr (.inl rfl));exact .inr (.inr (.inr (.inr (.inr hn)))));omega) _ (Nat.le_refl _)
       refine ⟨Nat.le_refl _,?_⟩
       have e:(c.order.key :: c.order.txs).length=c.order.txs.length+1:=by simp
       simp only [sumL,Zcm,List.map_cons,List.map_nil,List.sum_cons,List.sum_nil]
       omega
     · split
       · have:=Zdj [c.key,c.id,c.place] (fun n hn=>by have:=hr n (by unfold Zb1;simp at hn ⊢;rcases hn with rfl | rfl | rfl;exact .inr (.inr (.inr (.inl rfl)));exact .inr (.inl rfl);exact .inr (.inr (.inr (.inr (.inl rfl)))));omega) _ (Nat.le_refl _)
         have h66:(Zcm [c.key,c.id,c.place]).length≤66:=this
         refine ⟨Nat.le_refl _,?_⟩
         simp only [sumL,List.map_cons,List.map_nil,List.sum_cons,List.sum_nil]
         omega
       · split
         · have:=Zoy c.phen
           exact ⟨Nat.le_refl _,by simp [sumL];omega⟩
         · simp [sumL]
theorem Zh7 (c:CmdD) (hc:c.order.txs.length≤998):FnP Tryz.prog 28 [.agg (rCmd c)] (.bs (Zbp c)):=by
 refine FnP.mk Tryz.func28 rfl Tryz.ntmps28 rfl ?_
 intro B a w F hB hfr hS
 refine wp_seq ?_
 refine Zc hS (qx 101 r1 (qf (oN (.cs (by kernel_rfl))) trivial qz qZ)) hB [2,1] [101,0] (fun _=>rfl) (fun _=>rfl) fun τ a w F hS=>?_
 try dsimp only [RS.sub,SF.sub,CF.sub,csub,Anc.sub,List.map,zCF] at hS
 generalize τ 1=v1 at hS
 refine Zb (wp_seq (wp_seq ?_))
 refine Za hS (qe 10 101 r1 r1 (qf (oP (ZlV c hc) Tryz.func66 (Args.one (.pagg .t))) r1 qz (qf (o_not .t) r1 qz qZ))) hB [6,2,1] [101,0] rfl rfl fun a w F hS=>Zb ?_
 refine Zd hS rfl (fun hc0=>?_) (fun hc0=>?_)
 ·skip
  have hg:([]:List UInt8)=Zbp c:=by unfold Zbp;rw [if_pos (by simpa using hc0)]
  refine wp_seq ?_
  refine Za hS (qf (oN (.cs (by kernel_rfl))) trivial qz qZ) hB [2,1] [101,0] rfl rfl fun a w F hS=>Zb (wp_ret (Zg ?_))
  refine Zq hfr hS rfl rfl rfl (.bs (by first | exact hg | (unfold Zbp;rw [if_neg (by rw [hrc];decide)])))
 have hrc:Za9 c=true:=by simpa using hc0
 refine wp_skip (Zb (wp_seq ?_))
 refine Zc hS (qg 0 101 r1 r1 (qa 101 r1 r1 (qf (oP (Zpc c.kind) Tryz.func67 (Args.one .t)) r1 qz (qf (Zk9 (ft:=9) (off:=0) (by kernel_rfl) (by kernel_rfl) .t rfl) r1 qz (qf (Zee (R:=rS) (l:=[(Z3 c.kind).s]) (sz:=1) (zs:=[.string ⟨#[]⟩]) (r:=[(0,.tmp 10)]) 102 Tryz.underlying49 (by kernel_rfl) (by kernel_rfl) (by kernel_rfl) (by kernel_rfl) rfl rfl (.one rfl .t Z2 (by kernel_rfl) .nil) rfl rfl (by intro x;rfl)) r1 qz (qN rfl rfl qZ)))))) hB [3,2,1] [102,101,0] (fun _=>rfl) (fun _=>rfl) fun τ a w F hS=>?_
 try dsimp only [RS.sub,SF.sub,CF.sub,csub,Anc.sub,List.map,Zf,xL,xM,Nat.reduceAdd,xD,xE,xT,xU,xC,xN,zCF,ldSF] at hS
 generalize τ 11=v11 at hS
 refine Zb (wp_seq (wp_seq ?_))
 refine Za hS (qg 0 101 r1 r1 (qa 101 r1 r1 qZ)) hB [13,3,2,1] [102,101,0] rfl rfl fun a w F hS=>Zb (wp_block (wp_seq (wp_seq ?_)))
 refine Za hS (qf (o_eql .t qi) r1 qz (qN rfl rfl qZ)) hB [14,13,3,2,1] [102,101,0] rfl rfl fun a w F hS=>Zb ?_
 refine Zd hS rfl (fun hc1=>?_) (fun hc1=>?_)
 ·skip
  have hk:c.kind=1∨c.kind=2:=by first | exact .inl (of_decide_eq_true hc1) | exact .inr (of_decide_eq_true hc1)
  have hlist:[(Z3 c.kind).s,Zdc c.tx] = (Z3 c.kind).s :: ZaN c:=by unfold ZaN;rw [if_pos hk]
  refine wp_skip (Zb ?_)
  refine Zd hS rfl (fun hc2=>?_) (fun hc2=>?_)
  ·skip
   have hk:c.kind=1∨c.kind=2:=by first | exact .inl (of_decide_eq_true hc2) | exact .inr (of_decide_eq_true hc2)
   have hlist:[(Z3 c.kind).s,Zdc c.tx] = (Z3 c.kind).s :: ZaN c:=by unfold ZaN;rw [if_pos hk]
   refine Zc hS (qM rfl rfl (qg 1 101 r1 r1 (qf (oL true 3 101 .adr) r1 r1 (qf (oP (Zj5 c.tx (by have:=(Zdn hrc).2.2.1;omega)) Tryz.func68 (Args.one (.pagg .t))) r1 qz (qf (Zh (sz:=1) (zs:=[.string ⟨#[]⟩]) (r:=[(0,.tmp 20)]) (l:=[_]) Tryz.underlying49 (by kernel_rfl) (by kernel_rfl) (by kernel_rfl) (by kernel_rfl) rfl rfl (.one rfl .t Z2 (by kernel_rfl) .nil) rfl) r1 qz (qf (o_append (sz:=1) (bs:=16) 102 (.mk' Tryz.underlying49 (by kernel_rfl) (by kernel_rfl)) (by intro x;rfl) .is (.arr (l':=[Zdc c.tx]) .t) (by simp only [List.length_cons,List.length_nil];omega) (by decide)) ⟨rfl,rfl,trivial⟩ ⟨rfl,trivial⟩ (qN rfl rfl qZ))))))) hB [3,2] [102,101,0] (fun _=>rfl) (fun _=>rfl) fun τ a w F hS=>?_
   try dsimp only [RS.sub,SF.sub,CF.sub,csub,Anc.sub,List.map,Zf,xL,xM,Nat.reduceAdd,xD,xE,xT,xU,xC,xN,zCF,ldSF] at hS
   generalize τ 22=v22 at hS
   refine Zi (Zb (wp_seq ?_))
   rw [hlist] at hS
   obtain ⟨F,hS⟩:=hS.give 102 3 rfl rfl
   obtain ⟨F,hS⟩:=hS.nm [3,2] [101,0] rfl rfl
   refine Za hS (qM rfl rfl (qf (oP (ZeA ((Z3 c.kind).s :: ZaN c) (by have:=(Z6 hrc hc).1;simp only [List.length_cons];omega) (by have h8:=(Z6 hrc hc).2;have h9:=ZbQ c.kind;unfold sumL at h8 ⊢;rw [List.map_cons,List.sum_cons];omega)) Tryz.func72 (Args.one .t)) r1 qz (qN rfl rfl qZ))) hB [2] [101,0] rfl rfl fun a w F hS=>Zb (wp_ret ?_)
   refine Zq hfr hS rfl rfl rfl (.bs (by first | exact hg | (unfold Zbp;rw [if_neg (by rw [hrc];decide)])))
  exact Bool.noConfusion (hc1.symm.trans hc2)
 have hn:=of_decide_eq_false hc1
 refine Za hS (qf (o_eql .t qi) r1 qz (qN rfl rfl qZ)) hB [14,13,3,2,1] [102,101,0] rfl rfl fun a w F hS=>Zb ?_
 refine Zd hS rfl (fun hc3=>?_) (fun hc3=>?_)
 ·skip
  have hk:c.kind=1∨c.kind=2:=by first | exact .inl (of_decide_eq_true hc3) | exact .inr (of_decide_eq_true hc3)
  have hlist:[(Z3 c.kind).s,Zdc c.tx] = (Z3 c.kind).s :: ZaN c:=by unfold ZaN;rw [if_pos hk]
  refine Zc hS (qM rfl rfl (qg 1 101 r1 r1 (qf (oL true 3 101 .adr) r1 r1 (qf (oP (Zj5 c.tx (by have:=(Zdn hrc).2.2.1;omega)) Tryz.func68 (Args.one (.pagg .t))) r1 qz (qf (Zh (sz:=1) (zs:=[.string ⟨#[]⟩]) (r:=[(0,.tmp 20)]) (l:=[_]) Tryz.underlying49 (by kernel_rfl) (by kernel_rfl) (by kernel_rfl) (by kernel_rfl) rfl rfl (.one rfl .t Z2 (by kernel_rfl) .nil) rfl) r1 qz (qf (o_append (sz:=1) (bs:=16) 102 (.mk' Tryz.underlying49 (by kernel_rfl) (by kernel_rfl)) (by intro x;rfl) .is (.arr (l':=[Zdc c.tx]) .t) (by simp only [List.length_cons,List.length_nil];omega) (by decide)) ⟨rfl,rfl,trivial⟩ ⟨rfl,trivial⟩ (qN rfl rfl qZ))))))) hB [3,2] [102,101,0] (fun _=>rfl) (fun _=>rfl) fun τ a w F hS=>?_
  try dsimp only [RS.sub,SF.sub,CF.sub,csub,Anc.sub,List.map,Zf,xL,xM,Nat.reduceAdd,xD,xE,xT,xU,xC,xN,zCF,ldSF] at hS
  generalize τ 22=v22 at hS
  refine Zi (Zb (wp_seq ?_))
  rw [hlist] at hS
  obtain ⟨F,hS⟩:=hS.give 102 3 rfl rfl
  obtain ⟨F,hS⟩:=hS.nm [3,2] [101,0] rfl rfl
  refine Za hS (qM rfl rfl (qf (oP (ZeA ((Z3 c.kind).s :: ZaN c) (by have:=(Z6 hrc hc).1;simp only [List.length_cons];omega) (by have h8:=(Z6 hrc hc).2;have h9:=ZbQ c.kind;unfold sumL at h8 ⊢;rw [List.map_cons,List.sum_cons];omega)) Tryz.func72 (Args.one .t)) r1 qz (qN rfl rfl qZ))) hB [2] [101,0] rfl rfl fun a w F hS=>Zb (wp_ret ?_)
  refine Zq hfr hS rfl rfl rfl (.bs (by first | exact hg | (unfold Zbp;rw [if_neg (by rw [hrc];decide)])))
 have hn:=of_decide_eq_false hc3
 refine wp_seq (wp_seq ?_)
 refine Za hS (qf (o_eql .t qi) r1 qz (qN rfl rfl qZ)) hB [23,13,3,2,1] [102,101,0] rfl rfl fun a w F hS=>Zb ?_
 refine Zd hS rfl (fun hc4=>?_) (fun hc4=>?_)
 ·skip
  have hk:c.kind=3∨c.kind=10:=by first | exact .inl (of_decide_eq_true hc4) | exact .inr (of_decide_eq_true hc4)
  have hlist:[(Z3 c.kind).s,textL c.id] = (Z3 c.kind).s :: ZaN c:=by unfold ZaN;rw [if_neg (by omega),if_pos hk]
  refine wp_skip (Zb ?_)
  refine Zd hS rfl (fun hc5=>?_) (fun hc5=>?_)
  ·skip
   have hk:c.kind=3∨c.kind=10:=by first | exact .inl (of_decide_eq_true hc5) | exact .inr (of_decide_eq_true hc5)
   have hlist:[(Z3 c.kind).s,textL c.id] = (Z3 c.kind).s :: ZaN c:=by unfold ZaN;rw [if_neg (by omega),if_pos hk]
   refine Zc hS (qM rfl rfl (qg 7 101 r1 r1 (qa 101 r1 r1 (qf (oP (Zdf c.id) Tryz.func69 (Args.one .t)) r1 qz (qf (Zh (sz:=1) (zs:=[.string ⟨#[]⟩]) (r:=[(0,.tmp 29)]) (l:=[_]) Tryz.underlying49 (by kernel_rfl) (by kernel_rfl) (by kernel_rfl) (by kernel_rfl) rfl rfl (.one rfl .t Z2 (by kernel_rfl) .nil) rfl) r1 qz (qf (o_append (sz:=1) (bs:=16) 102 (.mk' Tryz.underlying49 (by kernel_rfl) (by kernel_rfl)) (by intro x;rfl) .is (.arr (l':=[textL c.id]) .t) (by simp only [List.length_cons,List.length_nil];omega) (by decide)) ⟨rfl,rfl,trivial⟩ ⟨rfl,trivial⟩ (qN rfl rfl qZ))))))) hB [3,2] [102,101,0] (fun _=>rfl) (fun _=>rfl) fun τ a w F hS=>?_
   try dsimp only [RS.sub,SF.sub,CF.sub,csub,Anc.sub,List.map,Zf,xL,xM,Nat.reduceAdd,xD,xE,xT,xU,xC,xN,zCF,ldSF] at hS
   generalize τ 31=v31 at hS
   refine Zi (Zb (wp_seq ?_))
   rw [hlist] at hS
   obtain ⟨F,hS⟩:=hS.give 102 3 rfl rfl
   obtain ⟨F,hS⟩:=hS.nm [3,2] [101,0] rfl rfl
   refine Za hS (qM rfl rfl (qf (oP (ZeA ((Z3 c.kind).s :: ZaN c) (by have:=(Z6 hrc hc).1;simp only [List.length_cons];omega) (by have h8:=(Z6 hrc hc).2;have h9:=ZbQ c.kind;unfold sumL at h8 ⊢;rw [List.map_cons,List.sum_cons];omega)) Tryz.func72 (Args.one .t)) r1 qz (qN rfl rfl qZ))) hB [2] [101,0] rfl rfl fun a w F hS=>Zb (wp_ret ?_)
   refine Zq hfr hS rfl rfl rfl (.bs (by first | exact hg | (unfold Zbp;rw [if_neg (by rw [hrc];decide)])))
  exact Bool.noConfusion (hc4.symm.trans hc5)
 have hn:=of_decide_eq_false hc4
 refine Za hS (qf (o_eql .t qi) r1 qz (qN rfl rfl qZ)) hB [23,13,3,2,1] [102,101,0] rfl rfl fun a w F hS=>Zb ?_
 refine Zd hS rfl (fun hc6=>?_) (fun hc6=>?_)
 ·skip
  have hk:c.kind=3∨c.kind=10:=by first | exact .inl (of_decide_eq_true hc6) | exact .inr (of_decide_eq_true hc6)
  have hlist:[(Z3 c.kind).s,textL c.id] = (Z3 c.kind).s :: ZaN c:=by unfold ZaN;rw [if_neg (by omega),if_pos hk]
  refine Zc hS (qM rfl rfl (qg 7 101 r1 r1 (qa 101 r1 r1 (qf (oP (Zdf c.id) Tryz.func69 (Args.one .t)) r1 qz (qf (Zh (sz:=1) (zs:=[.string ⟨#[]⟩]) (r:=[(0,.tmp 29)]) (l:=[_]) Tryz.underlying49 (by kernel_rfl) (by kernel_rfl) (by kernel_rfl) (by kernel_rfl) rfl rfl (.one rfl .t Z2 (by kernel_rfl) .nil) rfl) r1 qz (qf (o_append (sz:=1) (bs:=16) 102 (.mk' Tryz.underlying49 (by kernel_rfl) (by kernel_rfl)) (by intro x;rfl) .is (.arr (l':=[textL c.id]) .t) (by simp only [List.length_cons,List.length_nil];omega) (by decide)) ⟨rfl,rfl,trivial⟩ ⟨rfl,trivial⟩ (qN rfl rfl qZ))))))) hB [3,2] [102,101,0] (fun _=>rfl) (fun _=>rfl) fun τ a w F hS=>?_
  try dsimp only [RS.sub,SF.sub,CF.sub,csub,Anc.sub,List.map,Zf,xL,xM,Nat.reduceAdd,xD,xE,xT,xU,xC,xN,zCF,ldSF] at hS
  generalize τ 31=v31 at hS
  refine Zi (Zb (wp_seq ?_))
  rw [hlist] at hS
  obtain ⟨F,hS⟩:=hS.give 102 3 rfl rfl
  obtain ⟨F,hS⟩:=hS.nm [3,2] [101,0] rfl rfl
  refine Za hS (qM rfl rfl (qf (oP (ZeA ((Z3 c.kind).s :: ZaN c) (by have:=(Z6 hrc hc).1;simp only [List.length_cons];omega) (by have h8:=(Z6 hrc hc).2;have h9:=ZbQ c.kind;unfold sumL at h8 ⊢;rw [List.map_cons,List.sum_cons];omega)) Tryz.func72 (Args.one .t)) r1 qz (qN rfl rfl qZ))) hB [2] [101,0] rfl rfl fun a w F hS=>Zb (wp_ret ?_)
  refine Zq hfr hS rfl rfl rfl (.bs (by first | exact hg | (unfold Zbp;rw [if_neg (by rw [hrc];decide)])))
 have hn:=of_decide_eq_false hc6
 refine wp_seq ?_
 refine Za hS (qf (o_eql .t qi) r1 qz (qN rfl rfl qZ)) hB [32,13,3,2,1] [102,101,0] rfl rfl fun a w F hS=>Zb ?_
 refine Zd hS rfl (fun hc7=>?_) (fun hc7=>?_)
 ·skip
  have hk:=of_decide_eq_true hc7
  have hlist:[(Z3 c.kind).s,Zcm (c.order.key :: c.order.txs)] = (Z3 c.kind).s :: ZaN c:=by unfold ZaN;rw [if_neg (by omega),if_neg (by omega),if_pos hk]
  refine Zc hS (qM rfl rfl (qg 4 101 r1 r1 (qf (oF 0 101 .adr) r1 r1 (qa 101 r1 r1 (qf (Zee (R:=rInt) (l:=[c.order.key]) (sz:=1) (zs:=[.int .i64 0]) (r:=[(0,.tmp 37)]) 103 Tryz.underlying41 (by kernel_rfl) (by kernel_rfl) (by kernel_rfl) (by kernel_rfl) rfl rfl (.one rfl .t one_int (by kernel_rfl) .nil) rfl rfl (by intro x;rfl)) r1 qz (qg 4 101 r1 r1 (qf (oF 1 101 .adr) r1 r1 (qa 101 r1 r1 (qf (o_append (sz:=1) (bs:=8) 103 (.mk' Tryz.underlying41 (by kernel_rfl) (by kernel_rfl)) (by intro x;rfl) .same (.sl .t) (by simp only [List.length_cons,List.length_nil];omega) (by decide)) ⟨rfl,rfl,trivial⟩ ⟨rfl,trivial⟩ (qf (o_lendRow 103 (words_c (c.order.key :: c.order.txs) (by simp;omega)) (fun _ _ _ _ _ h=>h) Tryz.func70 rfl (by kernel_rfl) .same) r1 r1 (qf (Zh (sz:=1) (zs:=[.string ⟨#[]⟩]) (r:=[(0,.tmp 43)]) (l:=[_]) Tryz.underlying49 (by kernel_rfl) (by kernel_rfl) (by kernel_rfl) (by kernel_rfl) rfl rfl (.one rfl .t Z2 (by kernel_rfl) .nil) rfl) r1 qz (qf (o_append (sz:=1) (bs:=16) 102 (.mk' Tryz.underlying49 (by kernel_rfl) (by kernel_rfl)) (by intro x;rfl) .is (.arr (l':=[Zcm (c.order.key :: c.order.txs)]) .t) (by simp only [List.length_cons,List.length_nil];omega) (by decide)) ⟨rfl,rfl,trivial⟩ ⟨rfl,trivial⟩ (qN rfl rfl qZ))))))))))))) hB [3,2] [103,102,101,0] (fun _=>rfl) (fun _=>rfl) fun τ a w F hS=>?_
  try dsimp only [RS.sub,SF.sub,CF.sub,csub,Anc.sub,List.map,Zf,xL,xM,Nat.reduceAdd,xD,xE,xT,xU,xC,xN,zCF,ldSF] at hS
  generalize τ 45=v45 at hS
  generalize τ 42=v42 at hS
  refine Zi (Zb (wp_seq ?_))
  rw [hlist] at hS
  obtain ⟨F,hS⟩:=hS.give 102 3 rfl rfl
  obtain ⟨F,hS⟩:=hS.nm [3,2] [103,101,0] rfl rfl
  refine Za hS (qM rfl rfl (qf (oP (ZeA ((Z3 c.kind).s :: ZaN c) (by have:=(Z6 hrc hc).1;simp only [List.length_cons];omega) (by have h8:=(Z6 hrc hc).2;have h9:=ZbQ c.kind;unfold sumL at h8 ⊢;rw [List.map_cons,List.sum_cons];omega)) Tryz.func72 (Args.one .t)) r1 qz (qN rfl rfl qZ))) hB [2] [103,101,0] rfl rfl fun a w F hS=>Zb (wp_ret ?_)
  refine Zq hfr hS rfl rfl rfl (.bs (by first | exact hg | (unfold Zbp;rw [if_neg (by rw [hrc];decide)])))
 have hn:=of_decide_eq_false hc7
 refine wp_seq ?_
 refine Za hS (qf (o_eql .t qi) r1 qz (qN rfl rfl qZ)) hB [46,13,3,2,1] [102,101,0] rfl rfl fun a w F hS=>Zb ?_
 refine Zd hS rfl (fun hc8=>?_) (fun hc8=>?_)
 ·skip
  have hk:=of_decide_eq_true hc8
  have hlist:[(Z3 c.kind).s,Zcm [c.key,c.id,c.place]] = (Z3 c.kind).s :: ZaN c:=by unfold ZaN;rw [if_neg (by omega),if_neg (by omega),if_neg (by omega),if_pos hk]
  refine Zc hS (qM rfl rfl (qg 6 101 r1 r1 (qa 101 r1 r1 (qg 7 101 r1 r1 (qa 101 r1 r1 (qg 8 101 r1 r1 (qa 101 r1 r1 (qf (Zh (sz:=1) (zs:=[.int .i64 0]) (r:=[(0,.tmp 50),(1,.tmp 52),(2,.tmp 54)]) (l:=[_,_,_]) Tryz.underlying41 (by kernel_rfl) (by kernel_rfl) (by kernel_rfl) (by kernel_rfl) rfl rfl (.one rfl .t one_int (by kernel_rfl) (.one rfl .t one_int (by kernel_rfl) (.one rfl .t one_int (by kernel_rfl) .nil))) rfl) r3 qz (qf (oP (words_c [c.key,c.id,c.place] (by simp)) Tryz.func70 (Args.one (.conv .t (Ent.arrSl (R:=rInt) (l:=[c.key,c.id,c.place]) rfl)))) r1 qz (qf (Zh (sz:=1) (zs:=[.string ⟨#[]⟩]) (r:=[(0,.tmp 56)]) (l:=[_]) Tryz.underlying49 (by kernel_rfl) (by kernel_rfl) (by kernel_rfl) (by kernel_rfl) rfl rfl (.one rfl .t Z2 (by kernel_rfl) .nil) rfl) r1 qz (qf (o_append (sz:=1) (bs:=16) 102 (.mk' Tryz.underlying49 (by kernel_rfl) (by kernel_rfl)) (by intro x;rfl) .is (.arr (l':=[Zcm [c.key,c.id,c.place]]) .t) (by simp only [List.length_cons,List.length_nil];omega) (by decide)) ⟨rfl,rfl,trivial⟩ ⟨rfl,trivial⟩ (qN rfl rfl qZ)))))))))))) hB [3,2] [102,101,0] (fun _=>rfl) (fun _=>rfl) fun τ a w F hS=>?_
  try dsimp only [RS.sub,SF.sub,CF.sub,csub,Anc.sub,List.map,Zf,xL,xM,Nat.reduceAdd,xD,xE,xT,xU,xC,xN,zCF,ldSF] at hS
  generalize τ 58=v58 at hS
  refine Zi (Zb (wp_seq ?_))
  rw [hlist] at hS
  obtain ⟨F,hS⟩:=hS.give 102 3 rfl rfl
  obtain ⟨F,hS⟩:=hS.nm [3,2] [101,0] rfl rfl
  refine Za hS (qM rfl rfl (qf (oP (ZeA ((Z3 c.kind).s :: ZaN c) (by have:=(Z6 hrc hc).1;simp only [List.length_cons];omega) (by have h8:=(Z6 hrc hc).2;have h9:=ZbQ c.kind;unfold sumL at h8 ⊢;rw [List.map_cons,List.sum_cons];omega)) Tryz.func72 (Args.one .t)) r1 qz (qN rfl rfl qZ))) hB [2] [101,0] rfl rfl fun a w F hS=>Zb (wp_ret ?_)
  refine Zq hfr hS rfl rfl rfl (.bs (by first | exact hg | (unfold Zbp;rw [if_neg (by rw [hrc];decide)])))
 have hn:=of_decide_eq_false hc8
 refine wp_seq ?_
 refine Za hS (qf (o_eql .t qi) r1 qz (qN rfl rfl qZ)) hB [59,3,2,1] [102,101,0] rfl rfl fun a w F hS=>Zb ?_
 refine Zd hS rfl (fun hc9=>?_) (fun hc9=>?_)
 ·skip
  have hk:=of_decide_eq_true hc9
  have hlist:[(Z3 c.kind).s,Zcs c.phen] = (Z3 c.kind).s :: ZaN c:=by unfold ZaN;rw [if_neg (by omega),if_neg (by omega),if_neg (by omega),if_neg (by omega),if_pos hk]
  refine Zc hS (qM rfl rfl (qg 9 101 r1 r1 (qa 101 r1 r1 (qf (oP (Zo2 c.phen) Tryz.func71 (Args.one .t)) r1 qz (qf (Zh (sz:=1) (zs:=[.string ⟨#[]⟩]) (r:=[(0,.tmp 64)]) (l:=[_]) Tryz.underlying49 (by kernel_rfl) (by kernel_rfl) (by kernel_rfl) (by kernel_rfl) rfl rfl (.one rfl .t Z2 (by kernel_rfl) .nil) rfl) r1 qz (qf (o_append (sz:=1) (bs:=16) 102 (.mk' Tryz.underlying49 (by kernel_rfl) (by kernel_rfl)) (by intro x;rfl) .is (.arr (l':=[Zcs c.phen]) .t) (by simp only [List.length_cons,List.length_nil];omega) (by decide)) ⟨rfl,rfl,trivial⟩ ⟨rfl,trivial⟩ (qN rfl rfl qZ))))))) hB [3,2] [102,101,0] (fun _=>rfl) (fun _=>rfl) fun τ a w F hS=>?_
  try dsimp only [RS.sub,SF.sub,CF.sub,csub,Anc.sub,List.map,Zf,xL,xM,Nat.reduceAdd,xD,xE,xT,xU,xC,xN,zCF,ldSF] at hS
  generalize τ 66=v66 at hS
  refine Zi (Zb (wp_seq ?_))
  rw [hlist] at hS
  obtain ⟨F,hS⟩:=hS.give 102 3 rfl rfl
  obtain ⟨F,hS⟩:=hS.nm [3,2] [101,0] rfl rfl
  refine Za hS (qM rfl rfl (qf (oP (ZeA ((Z3 c.kind).s :: ZaN c) (by have:=(Z6 hrc hc).1;simp only [List.length_cons];omega) (by have h8:=(Z6 hrc hc).2;have h9:=ZbQ c.kind;unfold sumL at h8 ⊢;rw [List.map_cons,List.sum_cons];omega)) Tryz.func72 (Args.one .t)) r1 qz (qN rfl rfl qZ))) hB [2] [101,0] rfl rfl fun a w F hS=>Zb (wp_ret ?_)
  refine Zq hfr hS rfl rfl rfl (.bs (by first | exact hg | (unfold Zbp;rw [if_neg (by rw [hrc];decide)])))
 have hn:=of_decide_eq_false hc9
 have hlist:[(Z3 c.kind).s] = (Z3 c.kind).s :: ZaN c:=by unfold ZaN;rw [if_neg (by omega),if_neg (by omega),if_neg (by omega),if_neg (by omega),if_neg (by omega)]
 refine wp_skip (Zi (Zb (wp_seq ?_)))
 rw [hlist] at hS
 obtain ⟨F,hS⟩:=hS.give 102 3 rfl rfl
 obtain ⟨F,hS⟩:=hS.nm [59,3,2,1] [101,0] rfl rfl
 refine Za hS (qM rfl rfl (qf (oP (ZeA ((Z3 c.kind).s :: ZaN c) (by have:=(Z6 hrc hc).1;simp only [List.length_cons];omega) (by have h8:=(Z6 hrc hc).2;have h9:=ZbQ c.kind;unfold sumL at h8 ⊢;rw [List.map_cons,List.sum_cons];omega)) Tryz.func72 (Args.one .t)) r1 qz (qN rfl rfl qZ))) hB [2] [101,0] rfl rfl fun a w F hS=>Zb (wp_ret ?_)
 refine Zq hfr hS rfl rfl rfl (.bs (by first | exact hg | (unfold Zbp;rw [if_neg (by rw [hrc];decide)])))
theorem Zbt:∀ (r:List (List UInt8)) (x:List UInt8),Zah (x :: r)=x++r.flatMap fun y=>32 :: y
 | [],x=>by simp [Zah]
 | y :: r,x=>by rw [Zah,Zbt r y,List.flatMap_cons];simp
theorem ZcD (l:List Int):∀ i,i≤l.length→Zaj l i=Zah ((l.map textL).take i)
 | 0,_=>rfl
 | i+1,h=>by
   have hi:i<l.length:=by omega
   rw [Zaj,ZcD l i (by omega),Zmx (by simpa using hi),show nth (l.map textL) i=textL (nth l i) by rw [Zt (by simpa using hi),Zt hi];simp]
   split <;> simp
theorem ZjA (l:List Int):Zcm l=Zah (l.map textL):=by
 unfold Zcm
 rw [ZcD l _ (Nat.le_refl _),show l.length=(l.map textL).length by simp,List.take_length]
theorem ZnR (u v:CmdD):((((((decide (u.kind=v.kind) && decide (u.tx=v.tx)) && decide (u.order=v.order)) && decide (u.key=v.key)) && decide (u.id=v.id)) && decide (u.place=v.place)) && decide (u.phen=v.phen))=decide (u=v):=by
 obtain ⟨a1,a2,a3,a5,a6,a7,a8⟩:=u
 obtain ⟨b1,b2,b3,b5,b6,b7,b8⟩:=v
 rw [Bool.eq_iff_iff]
 simp [and_assoc]
theorem Zi0 (u v:CmdD):FnP Tryz.prog 40 [.agg (rCmd u),.agg (rCmd v)] (.bool (decide (u=v))):=by
 refine FnP.mk Tryz.func40 rfl Tryz.ntmps40 rfl ?_
 intro B a w F hB hfr hS
 refine wp_seq ?_
 refine Zc hS (qx 101 r1 (qx 102 r1 qB)) hB [4,3,2] [102,101,0] (fun _=>rfl) (fun _=>rfl) fun τ a w F hS=>?_
 try dsimp only [RS.sub,SF.sub,CF.sub,csub,Anc.sub,List.map,zCF,rCmd] at hS
 generalize τ 2=v2 at hS
 generalize τ 3=v3 at hS
 refine Zb (wp_seq ?_)
 refine ZbI hS (by kernel_rfl) (nf (oF 0 101 .is) r1 r1 (nf (oL false 1 101 .adr) r1 r1 (nf (oF 0 102 .is) r1 r1 (nf (oL false 1 102 .adr) r1 r1 (nf (o_eql .t .t) r2 trivial (nM rfl rfl (nk rfl (fun h=>oF 1 101 .is) r2 r1 (nk rfl (fun h=>oL true 3 101 (.w h .adr)) r2 r1 (nk rfl (fun h=>oF 1 102 .is) r2 r1 (nk rfl (fun h=>oL true 3 102 (.w h .adr)) r2 r1 (nk rfl (fun h=>oP (ZkL u.tx v.tx) Tryz.func41 (Args.two (.pagg (.w h)) (.pagg (.w h)))) r3 trivial (nf (ZB .t .t) r2 trivial (nM rfl rfl (nk rfl (fun h=>oF 4 101 .is) r2 r1 (nk rfl (fun h=>oL true 2 101 (.w h .adr)) r2 r1 (nk rfl (fun h=>oF 4 102 .is) r2 r1 (nk rfl (fun h=>oL true 2 102 (.w h .adr)) r2 r1 (nk rfl (fun h=>oP (Zfg u.order v.order) Tryz.func42 (Args.two (.pagg (.w h)) (.pagg (.w h)))) r3 trivial (nf (ZB .t .t) r2 trivial (nM rfl rfl (nk rfl (fun h=>oF 6 101 .is) r2 r1 (nk rfl (fun h=>oL false 1 101 (.w h .adr)) r2 r1 (nk rfl (fun h=>oF 6 102 .is) r2 r1 (nk rfl (fun h=>oL false 1 102 (.w h .adr)) r2 r1 (nn [28,26,24,4,3,2] [102,101,0] rfl rfl (nk rfl (fun h=>o_eql (.w h) (.w h)) r3 trivial (nf (ZB .t .t) r2 trivial (nM rfl rfl (nk rfl (fun h=>oF 7 101 .is) r2 r1 (nk rfl (fun h=>oL false 1 101 (.w h .adr)) r2 r1 (nk rfl (fun h=>oF 7 102 .is) r2 r1 (nk rfl (fun h=>oL false 1 102 (.w h .adr)) r2 r1 (nk rfl (fun h=>o_eql (.w h) (.w h)) r3 trivial (nf (ZB .t .t) r2 trivial (nM rfl rfl (nk rfl (fun h=>oF 8 101 .is) r2 r1 (nk rfl (fun h=>oL false 1 101 (.w h .adr)) r2 r1 (nk rfl (fun h=>oF 8 102 .is) r2 r1 (nk rfl (fun h=>oL false 1 102 (.w h .adr)) r2 r1 (nk rfl (fun h=>o_eql (.w h) (.w h)) r3 trivial (nf (ZB .t .t) r2 trivial (nM rfl rfl (nk rfl (fun h=>oF 9 101 .is) r2 r1 (nk rfl (fun h=>oL false 1 101 (.w h .adr)) r2 r1 (nk rfl (fun h=>oF 9 102 .is) r2 r1 (nk rfl (fun h=>oL false 1 102 (.w h .adr)) r2 r1 (nk rfl (fun h=>o_eql (.w h) (.w h)) r3 trivial (nf (ZB .t .t) r2 trivial (nN rfl rfl ZT.nil))))))))))))))))))))))))))))))))))))))))))))))))) (by kernel_rfl) (by rw [hB];kernel_rfl) fun a w F hS=>?_
 obtain ⟨F,hS⟩:=hS.nm [4] [102,101,0] rfl rfl
 try dsimp only [List.map,xD,xE,xT,xU,ldSF,rCmd] at hS
 refine Zb (wp_ret ?_)
 refine Zq hfr hS rfl rfl rfl (.bool (ZnR u v))
theorem ZhN (g:HistD) (hs:ZaY g):FnP Tryz.prog 23 [.agg (Zk g)] (.sl rS ((commandsC g).map Zbp)):=by
 refine FnP.mk Tryz.func23 rfl Tryz.ntmps23 rfl ?_
 intro B a w F hB hfr hS
 have hcl:=ZeO hs
 refine wp_seq ?_
 refine Zc hS (qx 101 r1 (qC qZ)) hB [2,1] [101,0] (fun _=>rfl) (fun _=>rfl) fun τ a w F hS=>?_
 try dsimp only [RS.sub,SF.sub,CF.sub,csub,Anc.sub,List.map,zCF,Zk,rTx,Zs,ZG,rInt,rOp,rCmd,rS] at hS
 generalize τ 1=v1 at hS
 refine Zb (wp_seq ?_)
 refine Za hS (qC qZ) hB [3,2,1] [101,0] rfl rfl fun a w F hS=>Zb (wp_seq (wp_seq ?_))
 refine Za hS (qe 2 101 r1 r1 (qf (oP (ZbG g hs) Tryz.func17 (Args.one (.pagg .t))) r1 qz (qu Tryz.underlying26 r1 (qJ qZ)))) hB [9,8,7,3,2] [101,0] rfl rfl fun a w F hS=>Zb (wp_block ?_)
 replace hS:=hS.fresh 50 rfl
 replace hS:=hS.turn 50 rfl (Zav (T:=9) (sz:=1) (R:=rS))
 refine Zo (σ:=(Nat)×(Value)×(List (List UInt8))) [2,7,8] [0,101] (fun s=>[(9,.pv (.int .i64 (s.1:Int))),(3,.pv (.is s.2.1))]) (fun s=>[(50,.ob (.val s.2.1) (Zx 9 1 rS s.2.2))]) (fun s=>s.1≤(commandsC g).length∧(s.2.2=((commandsC g).take s.1).map Zbp)) (fun s=>(commandsC g).length - s.1) ((0),(.slice none 0 0),([])) hS ⟨rfl,rfl,rfl,rfl,rfl,trivial⟩ ⟨rfl,rfl,rfl,trivial⟩ ⟨Nat.zero_le _,rfl⟩ ?_
 clear hS;intro s a w F hC hS
 obtain ⟨i,v,out⟩:=s
 try dsimp only at hC
 obtain ⟨F,hS⟩:=hS.nm [9,8,7,3,2] [101,50,0] rfl rfl
 try dsimp only at hS
 obtain ⟨hi,hq⟩:=hC
 have hol:out.length≤i:=by rw [hq,List.length_map,List.length_take];omega
 refine wp_seq ?_
 refine Za hS (qL r2) hB [10,9,8,7,3,2] [101,50,0] rfl rfl fun a w F hS=>Zb (wp_seq ?_)
 refine Zd hS rfl (fun hc0=>?_) (fun hc0=>?_)
 ·skip
  have hil:i<(commandsC g).length:=by simp at hc0;omega
  have hio:=hil
  refine wp_skip (Zb (wp_seq (wp_block (wp_seq ?_))))
  refine Zc hS (qy 10 Tryz.underlying26 r2 (qf (oR true 10 .t) r1 qz (qf (oH [.int .i64 0,.int .i64 0,.bool false,.slice none 0 0,.int .i64 0,.slice none 0 0,.int .i64 0,.int .i64 0,.int .i64 0,.int .i64 0] 102) trivial qz (qS 10 102 r2 r1 qZ)))) hB [9,8,7,5,3,2] [102,101,50,0] (fun _=>rfl) (fun _=>rfl) fun τ a w F hS=>?_
  try dsimp only [RS.sub,SF.sub,CF.sub,csub,Anc.sub,List.map,Zf,xL,xM,Nat.reduceAdd,xD,xE,xT,xU,xC,xN,zCF,ldSF,Zk,rTx,Zs,ZG,rInt,rOp,rCmd,rS] at hS
  generalize τ 5=v5 at hS
  try simp only [Int.toNat_natCast] at hS
  refine Zb ?_
  refine Zc hS (qM rfl rfl (qe 10 102 r1 r1 (qf (oP (Zh7 (Go.Gm.nth (commandsC g) i) (by rw [Zde (ZR hio)];simp)) Tryz.func28 (Args.one (.pagg .t))) r1 qz (qf (Zh (sz:=1) (zs:=[.string ⟨#[]⟩]) (r:=[(0,.tmp 15)]) (l:=[_]) Tryz.underlying49 (by kernel_rfl) (by kernel_rfl) (by kernel_rfl) (by kernel_rfl) rfl rfl (.one rfl .t Z2 (by kernel_rfl) .nil) rfl) r1 qz (qf (o_append (sz:=1) (bs:=16) 50 (.mk' Tryz.underlying49 (by kernel_rfl) (by kernel_rfl)) (by intro x;rfl) .is (.arr (l':=[Zbp (Go.Gm.nth (commandsC g) i)]) .t) (by simp only [List.length_append,List.length_cons,List.length_nil];omega) (by decide)) ⟨rfl,rfl,trivial⟩ ⟨rfl,trivial⟩ (qN rfl rfl qZ)))))) hB [9,8,7,3,2] [102,101,50,0] (fun _=>rfl) (fun _=>rfl) fun τ a w F hS=>?_
  try dsimp only [RS.sub,SF.sub,CF.sub,csub,Anc.sub,List.map,Zf,xL,xM,Nat.reduceAdd,xD,xE,xT,xU,xC,xN,zCF,ldSF,Zk,rTx,Zs,ZG,rInt,rOp,rCmd,rS] at hS
  generalize τ 17=v17 at hS
  refine Zi (Zb ?_)
  refine Za hS (qp r1 (qM rfl rfl qZ)) hB [9,8,7,3,2] [102,101,50,0] rfl rfl fun a w F hS=>Zb ?_
  replace hS:=hS.ent (i:=9) (s':=.pv (.int .i64 ((i+1:Nat):Int))) rfl (.int (Ze (by omega)))
  obtain ⟨F,hS⟩:=hS.nm [8,7,2,3,9] [101,0,50] rfl rfl
  exact ⟨((i+1),_,_),F,⟨by omega,(by rw [Zb5 hio,hq])⟩,hS,by omega⟩
 have hil:i=(commandsC g).length:=by simp at hc0;omega
 refine wp_exit (Zj (Zj (Zp (Zb (wp_seq ?_)))))
 refine Za hS (qM rfl rfl (qN rfl rfl qZ)) hB [2] [101,50,0] rfl rfl fun a w F hS=>Zb (wp_ret ?_)
 obtain ⟨F,hS⟩:=hS.give 50 2 rfl rfl
 refine Zq hfr hS rfl rfl rfl (.sl (by rw [hq,hil,List.take_length]))
theorem ZoG (x y:List CmdD):FnP Tryz.prog 14 [.sl rCmd x,.sl rCmd y] (.bool (decide (x=y))):=by
 refine FnP.mk Tryz.func14 rfl Tryz.ntmps14 rfl ?_
 intro B a w F hB hfr hS
 have hxl:=Sat.lenSl hS (i:=0) rfl
 refine wp_seq ?_
 refine Za hS qB hB [4,1,0] [0] rfl rfl fun a w F hS=>Zb (wp_seq (wp_seq ?_))
 refine Za hS (qM rfl rfl (qu Tryz.underlying26 r1 (qM rfl rfl (qu Tryz.underlying26 r1 (qf (o_neq .t .t) r2 qz qZ))))) hB [10,4,1,0] [0] rfl rfl fun a w F hS=>Zb ?_
 refine Zd hS rfl (fun hc0=>?_) (fun hc0=>?_)
 ·skip
  have hg:false=decide (x=y):=(decide_eq_false fun e=>by subst e;simp at hc0).symm
  refine wp_seq ?_
  refine Za hS qB hB [4,1,0] [0] rfl rfl fun a w F hS=>Zb (wp_ret (Zg ?_))
  refine Zq hfr hS rfl rfl rfl (.bool hg)
 have hln:x.length=y.length:=by simp at hc0;omega
 refine wp_skip (Zb (wp_seq (wp_seq ?_)))
 refine Za hS (qM rfl rfl (qu Tryz.underlying26 r1 (qJ qZ))) hB [13,12,4,1,0] [0] rfl rfl fun a w F hS=>Zb (wp_block ?_)
 refine Zo (σ:=(Nat)) [0,1,4,12] [0] (fun s=>[(13,.pv (.int .i64 (s:Int)))]) (fun s=>[]) (fun s=>s≤x.length∧(∀ q,q<s→Go.Gm.nth x q=Go.Gm.nth y q)) (fun s=>x.length - s) (0) hS ⟨rfl,rfl,rfl,rfl,rfl,trivial⟩ ⟨rfl,trivial⟩ ⟨Nat.zero_le _,fun q hq=>absurd hq (Nat.not_lt_zero q)⟩ ?_
 clear hS;intro i a w F hC hS
 try dsimp only at hC
 obtain ⟨F,hS⟩:=hS.nm [13,12,4,1,0] [0] rfl rfl
 try dsimp only at hS
 obtain ⟨hi,hq⟩:=hC
 refine wp_seq ?_
 refine Za hS (qL r2) hB [14,13,12,4,1,0] [0] rfl rfl fun a w F hS=>Zb (wp_seq ?_)
 refine Zd hS rfl (fun hc1=>?_) (fun hc1=>?_)
 ·skip
  have hil:i<x.length:=by simp at hc1;omega
  refine wp_skip (Zb (wp_seq (wp_block (wp_seq ?_))))
  refine Za hS (qM rfl rfl (qN rfl rfl qZ)) hB [13,12,5,4,1,0] [0] rfl rfl fun a w F hS=>Zb (wp_seq ?_)
  refine ZC hS (qM rfl rfl (qM rfl rfl (qy 10 Tryz.underlying26 r2 (qf (oR true 10 .t) r1 qz (qM rfl rfl (qM rfl rfl (qy 10 Tryz.underlying26 r2 (qf (oR true 10 .t) r1 qz (qf (oP (Zi0 (Go.Gm.nth x i) (Go.Gm.nth y i)) Tryz.func40 (Args.two (.pagg .t) (.pagg .t))) r2 qz (qf (o_not .t) r1 qz qZ)))))))))) hB [25,13,12,4,1,0] [0] rfl rfl fun a w F hS=>?_
  try dsimp only [List.map,xD,xE,xT,xU,ldSF,Zk,rTx,Zs,ZG,rInt,rOp,rCmd] at hS
  try simp only [Int.toNat_natCast] at hS
  refine Zb ?_
  refine Zd hS rfl (fun hc2=>?_) (fun hc2=>?_)
  ·skip
   have hg:false=decide (x=y):=(decide_eq_false fun e=>by subst e;simp at hc2).symm
   refine wp_seq ?_
   refine Za hS qB hB [13,12,4,1,0] [0] rfl rfl fun a w F hS=>Zb (wp_ret (Zl (Zg (Zg (Zl (Zg ?_))))))
   refine Zq hfr hS rfl rfl rfl (.bool hg)
  have hne:Go.Gm.nth x i=Go.Gm.nth y i:=by simpa using hc2
  refine wp_skip (Zi (Zb ?_))
  refine Za hS (qp r1 (qM rfl rfl qZ)) hB [13,12,4,1,0] [0] rfl rfl fun a w F hS=>Zb ?_
  replace hS:=hS.ent (i:=13) (s':=.pv (.int .i64 ((i+1:Nat):Int))) rfl (.int (Ze (by omega)))
  obtain ⟨F,hS⟩:=hS.nm [12,4,1,0,13] [0] rfl rfl
  exact ⟨(i+1),F,⟨by omega,(fun q h9=>by rcases Nat.lt_or_eq_of_le (Nat.le_of_lt_succ h9) with h8 | h8;exact hq q h8;rw [h8];exact hne)⟩,hS,by omega⟩
 have hil:i=x.length:=by simp at hc1;omega
 have hg:true=decide (x=y):=(decide_eq_true (ZaP hln fun j hj=>hq j (by omega))).symm
 refine wp_exit (Zj (Zj (Zp (Zb (wp_seq ?_)))))
 refine Za hS qB hB [4] [0] rfl rfl fun a w F hS=>Zb (wp_ret ?_)
 refine Zq hfr hS rfl rfl rfl (.bool hg)
theorem ZjL {o:OrdD} (h:o.txs.Nodup):ZbF o=(Zak (Zdz o.txs) o.txs).1.map (Zh2 o.key):=by unfold ZbF;rw [Zi1 h]
theorem zC_le (k i j:Int):Zcp [.int .i64 k,.int .i64 0,.bool false,.is (.slice none 0 0),.int .i64 0,.is (.slice none 0 0),.int .i64 j,.int .i64 i,.int .i64 0,.int .i64 0] (rCmd {zeroC k with key:=j,id:=i}):=⟨PVLe.refl,PVLe.refl,PVLe.refl,PVLe.nilSl,PVLe.refl,PVLe.nilSl,PVLe.refl,PVLe.refl,PVLe.refl,PVLe.refl,trivial⟩
theorem lvc:commandsC (⟨[(⟨1,true,[⟨false,5,0,0⟩]⟩:TxD),(⟨2,true,[⟨true,5,1,1⟩,⟨false,5,0,0⟩]⟩:TxD)],[⟨5,[2,1]⟩]⟩:HistD)=([ZbJ (⟨1,true,[⟨false,5,0,0⟩]⟩:TxD),ZbJ (⟨2,true,[⟨true,5,1,1⟩,⟨false,5,0,0⟩]⟩:TxD),ZbK (⟨2,true,[⟨true,5,1,1⟩,⟨false,5,0,0⟩]⟩:TxD),Zh2 5 ⟨2,0⟩]:List CmdD):=by
 rw [Zba (by decide +kernel)]
 rw [show ((⟨[(⟨1,true,[⟨false,5,0,0⟩]⟩:TxD),(⟨2,true,[⟨true,5,1,1⟩,⟨false,5,0,0⟩]⟩:TxD)],[⟨5,[2,1]⟩]⟩:HistD)).orders.flatMap ZbF=ZbF ⟨5,[2,1]⟩ from by simp,ZjL (by decide)]
 decide +kernel
theorem lvp:playC zeroH ([ZbJ (⟨1,true,[⟨false,5,0,0⟩]⟩:TxD),ZbJ (⟨2,true,[⟨true,5,1,1⟩,⟨false,5,0,0⟩]⟩:TxD),ZbK (⟨2,true,[⟨true,5,1,1⟩,⟨false,5,0,0⟩]⟩:TxD),Zh2 5 ⟨2,0⟩]:List CmdD) 0=((⟨[(⟨1,true,[⟨false,5,0,0⟩]⟩:TxD),(⟨2,true,[⟨true,5,1,1⟩,⟨false,5,0,0⟩]⟩:TxD)],[⟨5,[2,1]⟩]⟩:HistD),4,0):=by decide +kernel
theorem lvq:playC zeroH [({zeroC 1 with tx:=⟨1,false,[]⟩} : CmdD),({zeroC 1 with tx:=⟨1,false,[]⟩} : CmdD)] 0=(zeroH,1,4):=by decide +kernel
theorem lve:ZN (⟨[(⟨1,true,[⟨false,5,0,0⟩]⟩:TxD),(⟨2,true,[⟨true,5,1,1⟩,⟨false,5,0,0⟩]⟩:TxD)],[⟨5,[2,1]⟩]⟩:HistD) ({zeroC 8 with key:=0,id:=0} : CmdD)=(zeroH,11):=by decide +kernel
theorem lvf:ZN (⟨[(⟨1,true,[⟨false,5,0,0⟩]⟩:TxD),(⟨2,true,[⟨true,5,1,1⟩,⟨false,5,0,0⟩]⟩:TxD)],[⟨5,[2,1]⟩]⟩:HistD) ({zeroC 5 with key:=5,id:=1} : CmdD)=((⟨[(⟨1,true,[⟨false,5,0,0⟩]⟩:TxD),(⟨2,true,[⟨true,5,1,1⟩,⟨false,5,0,0⟩]⟩:TxD)],[⟨5,[1,2]⟩]⟩:HistD),0):=by decide +kernel
theorem lvs:([ZbJ (⟨1,true,[⟨false,5,0,0⟩]⟩:TxD),ZbJ (⟨2,true,[⟨true,5,1,1⟩,⟨false,5,0,0⟩]⟩:TxD),ZbK (⟨2,true,[⟨true,5,1,1⟩,⟨false,5,0,0⟩]⟩:TxD),Zh2 5 ⟨2,0⟩]:List CmdD).map Zbp = [[97,100,100,32,49,32,99,32,119,53],[97,100,100,32,50,32,99,32,119,53],[115,101,116,32,50,32,99,32,114,53,64,49,46,49,32,119,53],[109,111,118,32,53,32,50,32,48]]:=by decide +kernel
theorem ZmW  : FnP Tryz.prog 18 [] (.bool true):=by
 refine FnP.mk Tryz.func18 rfl Tryz.ntmps18 rfl ?_
 intro B a w F hB hfr hS
 refine wp_seq ?_
 refine Za hS qB hB [0] [0] rfl rfl fun a w F hS=>Zb (wp_seq ?_)
 refine Zc hS (qf (oB [(1,_)] [.bool false,.int .i64 0,.int .i64 0,.int .i64 0] [(0,1),(1,1),(2,1),(3,1)] (.one rfl qi one_int (by kernel_rfl) .nil)) trivial qz (qf (oB [(0,_),(1,_),(2,_),(3,_)] [.bool false,.int .i64 0,.int .i64 0,.int .i64 0] [(0,1),(1,1),(2,1),(3,1)] (.one rfl .cb Za5 (by kernel_rfl) (.one rfl qi one_int (by kernel_rfl) (.one rfl qi one_int (by kernel_rfl) (.one rfl qi one_int (by kernel_rfl) .nil))))) trivial qz (qf (oH [.bool false,.int .i64 0,.int .i64 0,.int .i64 0] 101) trivial qz (qf (oH [.bool false,.int .i64 0,.int .i64 0,.int .i64 0] 102) trivial qz (qS 4 101 r2 r1 (qS 4 102 r2 r1 qZ)))))) hB [2,1,0] [102,101,0] (fun _=>rfl) (fun _=>rfl) fun τ a w F hS=>?_
 try dsimp only [RS.sub,SF.sub,CF.sub,csub,Anc.sub,List.map,Zf,xL,xM,Nat.reduceAdd,xD,xE,xT,xU,xC,xN,zCF,Zk,rTx,Zs,ZG,rInt,rOp,rCmd,rS] at hS
 generalize τ 1=v1 at hS
 generalize τ 2=v2 at hS
 refine Zb (wp_seq ?_)
 refine Zc hS (qe 4 101 r1 r1 (qf (Zh (sz:=4) (zs:=[.bool false,.int .i64 0,.int .i64 0,.int .i64 0]) (r:=[(0,.tmp 17)]) (l:=[_,_,_,_]) Tryz.underlying38 (by kernel_rfl) (by kernel_rfl) (by kernel_rfl) (by kernel_rfl) rfl rfl (.agg rfl .t (by kernel_rfl) (by kernel_rfl) .nil) rfl) r1 qz (qf (oB [(0,_),(1,_),(2,.tmp 18)] [.int .i64 0,.bool false,.slice none 0 0] [(0,1),(1,1),(2,1)] (.one rfl qi one_int (by kernel_rfl) (.one rfl .cb Za5 (by kernel_rfl) (.one rfl .t Zbd (by kernel_rfl) .nil)))) r1 qz (qe 4 102 r1 r1 (qe 4 101 r1 r1 (qf (Zh (sz:=4) (zs:=[.bool false,.int .i64 0,.int .i64 0,.int .i64 0]) (r:=[(0,.tmp 20),(1,.tmp 21)]) (l:=[_,_,_,_,_,_,_,_]) Tryz.underlying38 (by kernel_rfl) (by kernel_rfl) (by kernel_rfl) (by kernel_rfl) rfl rfl (.agg rfl .t (by kernel_rfl) (by kernel_rfl) (.agg rfl .t (by kernel_rfl) (by kernel_rfl) .nil)) rfl) r2 qz (qf (oB [(0,_),(1,_),(2,.tmp 22)] [.int .i64 0,.bool false,.slice none 0 0] [(0,1),(1,1),(2,1)] (.one rfl qi one_int (by kernel_rfl) (.one rfl .cb Za5 (by kernel_rfl) (.one rfl .t Zbd (by kernel_rfl) .nil)))) r1 qz (qf (Zh (sz:=3) (zs:=[.int .i64 0,.bool false,.slice none 0 0]) (r:=[(0,.tmp 19),(1,.tmp 23)]) (l:=[_,_,_,_,_,_]) Tryz.underlying22 (by kernel_rfl) (by kernel_rfl) (by kernel_rfl) (by kernel_rfl) rfl rfl (.agg rfl .t (by kernel_rfl) (by kernel_rfl) (.agg rfl .t (by kernel_rfl) (by kernel_rfl) .nil)) rfl) r2 qz (qf (Zh (sz:=1) (zs:=[.int .i64 0]) (r:=[(0,_),(1,_)]) (l:=[_,_]) Tryz.underlying41 (by kernel_rfl) (by kernel_rfl) (by kernel_rfl) (by kernel_rfl) rfl rfl (.one rfl qi one_int (by kernel_rfl) (.one rfl qi one_int (by kernel_rfl) .nil)) rfl) trivial qz (qf (oB [(0,_),(1,.tmp 25)] [.int .i64 0,.slice none 0 0] [(0,1),(1,1)] (.one rfl qi one_int (by kernel_rfl) (.one rfl .t Zbd (by kernel_rfl) .nil))) r1 qz (qf (Zh (sz:=2) (zs:=[.int .i64 0,.slice none 0 0]) (r:=[(0,.tmp 26)]) (l:=[_,_]) Tryz.underlying23 (by kernel_rfl) (by kernel_rfl) (by kernel_rfl) (by kernel_rfl) rfl rfl (.agg rfl .t (by kernel_rfl) (by kernel_rfl) .nil) rfl) r1 qz (qf (oB [(0,.tmp 24),(1,.tmp 27)] [.slice none 0 0,.slice none 0 0] [(0,1),(1,1)] (.one rfl .t Zbd (by kernel_rfl) (.one rfl .t Zbd (by kernel_rfl) .nil))) r2 qz (qf (oH [.slice none 0 0,.slice none 0 0] 103) trivial qz (qS 2 103 r2 r1 qZ)))))))))))))) hB [3,0] [103,102,101,0] (fun _=>rfl) (fun _=>rfl) fun τ a w F hS=>?_
 try dsimp only [RS.sub,SF.sub,CF.sub,csub,Anc.sub,List.map,Zf,xL,xM,Nat.reduceAdd,xD,xE,xT,xU,xC,xN,zCF,ldSF,Zk,rTx,Zs,ZG,rInt,rOp,rCmd,rS] at hS
 generalize τ 3=v3 at hS
 replace hS:=hS.turn 103 rfl (r':=.pt (.val v3) 25 [.pv (.sl rTx [(⟨1,true,[⟨false,5,0,0⟩]⟩:TxD),(⟨2,true,[⟨true,5,1,1⟩,⟨false,5,0,0⟩]⟩:TxD)]),.pv (.sl Zs [⟨5,[2,1]⟩])]) (Zqr rfl rfl ⟨PVLe.arrSl (R:=rTx) (l':=[(⟨1,true,[⟨false,5,0,0⟩]⟩:TxD),(⟨2,true,[⟨true,5,1,1⟩,⟨false,5,0,0⟩]⟩:TxD)]) rfl ⟨PVLe.refl,PVLe.refl,PVLe.arrSl (R:=rOp) (l':=[⟨false,5,0,0⟩]) rfl Zcp.refl,PVLe.refl,PVLe.refl,PVLe.arrSl (R:=rOp) (l':=[⟨true,5,1,1⟩,⟨false,5,0,0⟩]) rfl Zcp.refl,trivial⟩,PVLe.arrSl (R:=Zs) (l':=[⟨5,[2,1]⟩]) rfl ⟨PVLe.refl,PVLe.arrSl (R:=rInt) (l':=[2,1]) rfl Zcp.refl,trivial⟩,trivial⟩)
 obtain ⟨F,hS⟩:=hS.nm [3,0] [103,102,101,0] rfl rfl
 refine Zb (wp_seq ?_)
 refine Za hS (qe 2 103 r1 r1 (qf (oP (ZbG (⟨[(⟨1,true,[⟨false,5,0,0⟩]⟩:TxD),(⟨2,true,[⟨true,5,1,1⟩,⟨false,5,0,0⟩]⟩:TxD)],[⟨5,[2,1]⟩]⟩:HistD) (by decide)) Tryz.func17 (Args.one (.pagg .t))) r1 qz (qN rfl rfl qZ))) hB [4,3,0] [103,102,101,0] rfl rfl fun a w F hS=>?_
 rw [lvc] at hS
 refine Zb (wp_seq ?_)
 refine Zc hS (qM rfl rfl (qf (oP (Zmm ([ZbJ (⟨1,true,[⟨false,5,0,0⟩]⟩:TxD),ZbJ (⟨2,true,[⟨true,5,1,1⟩,⟨false,5,0,0⟩]⟩:TxD),ZbK (⟨2,true,[⟨true,5,1,1⟩,⟨false,5,0,0⟩]⟩:TxD),Zh2 5 ⟨2,0⟩]:List CmdD) (by decide)) Tryz.func19 (Args.one .t)) r1 qz (qM rfl rfl (qf (o_extract .t rfl) r1 qz (qf (o_extract .t rfl) r1 qz (qf (o_extract .t rfl) r1 qz (qf (oH [.slice none 0 0,.slice none 0 0] 104) trivial qz (qf (oA 2 104 .same (.conv .t .agg)) r2 r1 (qN rfl rfl (qN rfl rfl qZ)))))))))) hB [7,6,5,4,3,0] [104,103,102,101,0] (fun _=>rfl) (fun _=>rfl) fun τ a w F hS=>?_
 try dsimp only [RS.sub,SF.sub,CF.sub,csub,Anc.sub,List.map,Zf,xL,xM,Nat.reduceAdd,xD,xE,xT,xU,xC,xN,zCF,Zk,rTx,Zs,ZG,rInt,rOp,rCmd,rS] at hS
 generalize τ 5=v5 at hS
 rw [lvp] at hS
 dsimp only at hS
 refine Zb (wp_seq ?_)
 refine Zc hS (qf (oB [(0,_)] [.int .i64 0,.bool false,.slice none 0 0] [(0,1),(1,1),(2,1)] (.one rfl qi one_int (by kernel_rfl) .nil)) trivial qz (qf (oB [(0,_),(1,.tmp 38)] [.int .i64 0,.int .i64 0,.bool false,.slice none 0 0,.int .i64 0,.slice none 0 0,.int .i64 0,.int .i64 0,.int .i64 0,.int .i64 0] [(0,1),(1,3),(4,2),(6,1),(7,1),(8,1),(9,1)] (.one rfl qi one_int (by kernel_rfl) (.agg rfl .t (by kernel_rfl) (by kernel_rfl) .nil))) r1 qz (qf (oB [(0,_)] [.int .i64 0,.bool false,.slice none 0 0] [(0,1),(1,1),(2,1)] (.one rfl qi one_int (by kernel_rfl) .nil)) trivial qz (qf (oB [(0,_),(1,.tmp 40)] [.int .i64 0,.int .i64 0,.bool false,.slice none 0 0,.int .i64 0,.slice none 0 0,.int .i64 0,.int .i64 0,.int .i64 0,.int .i64 0] [(0,1),(1,3),(4,2),(6,1),(7,1),(8,1),(9,1)] (.one rfl qi one_int (by kernel_rfl) (.agg rfl .t (by kernel_rfl) (by kernel_rfl) .nil))) r1 qz (qf (Zh (sz:=10) (zs:=[.int .i64 0,.int .i64 0,.bool false,.slice none 0 0,.int .i64 0,.slice none 0 0,.int .i64 0,.int .i64 0,.int .i64 0,.int .i64 0]) (r:=[(0,.tmp 39),(1,.tmp 41)]) (l:=[_,_,_,_,_,_,_,_,_,_,_,_,_,_,_,_,_,_,_,_]) Tryz.underlying26 (by kernel_rfl) (by kernel_rfl) (by kernel_rfl) (by kernel_rfl) rfl rfl (.agg rfl .t (by kernel_rfl) (by kernel_rfl) (.agg rfl .t (by kernel_rfl) (by kernel_rfl) .nil)) rfl) r2 qz (qf (oP (Zmm [({zeroC 1 with tx:=⟨1,false,[]⟩} : CmdD),({zeroC 1 with tx:=⟨1,false,[]⟩} : CmdD)] (by decide)) Tryz.func19 (Args.one (.conv .t (entArr (l:=[.int .i64 1,.int .i64 1,.bool false,.is (.slice none 0 0),.int .i64 0,.is (.slice none 0 0),.int .i64 0,.int .i64 0,.int .i64 0,.int .i64 0,.int .i64 1,.int .i64 1,.bool false,.is (.slice none 0 0),.int .i64 0,.is (.slice none 0 0),.int .i64 0,.int .i64 0,.int .i64 0,.int .i64 0]) (R:=rCmd) (l':=[({zeroC 1 with tx:=⟨1,false,[]⟩} : CmdD),({zeroC 1 with tx:=⟨1,false,[]⟩} : CmdD)]) rfl ⟨PVLe.refl,PVLe.refl,PVLe.refl,PVLe.nilSl,PVLe.refl,PVLe.nilSl,PVLe.refl,PVLe.refl,PVLe.refl,PVLe.refl,PVLe.refl,PVLe.refl,PVLe.refl,PVLe.nilSl,PVLe.refl,PVLe.nilSl,PVLe.refl,PVLe.refl,PVLe.refl,PVLe.refl,trivial⟩)))) r1 qz (qM rfl rfl (qf (o_extract .t rfl) r1 qz (qf (o_extract .t rfl) r1 qz (qf (o_extract .t rfl) r1 qz (qf (oH [.slice none 0 0,.slice none 0 0] 105) trivial qz (qf (oA 2 105 .same (.conv .t .agg)) r2 r1 (qN rfl rfl (qN rfl rfl qZ)))))))))))))) hB [10,9,7,6,5,4,3,0] [105,104,103,102,101,0] (fun _=>rfl) (fun _=>rfl) fun τ a w F hS=>?_
 try dsimp only [RS.sub,SF.sub,CF.sub,csub,Anc.sub,List.map,Zf,xL,xM,Nat.reduceAdd,xD,xE,xT,xU,xC,xN,zCF,Zk,rTx,Zs,ZG,rInt,rOp,rCmd,rS] at hS
 generalize τ 8=v8 at hS
 rw [lvq] at hS
 dsimp only at hS
 refine Zb (wp_seq ?_)
 refine Zc hS (qe 2 103 r1 r1 (qf (oB [(0,_)] [.int .i64 0,.int .i64 0,.bool false,.slice none 0 0,.int .i64 0,.slice none 0 0,.int .i64 0,.int .i64 0,.int .i64 0,.int .i64 0] [(0,1),(1,3),(4,2),(6,1),(7,1),(8,1),(9,1)] (.one rfl qi one_int (by kernel_rfl) .nil)) trivial qz (qf (oP (Zdr (⟨[(⟨1,true,[⟨false,5,0,0⟩]⟩:TxD),(⟨2,true,[⟨true,5,1,1⟩,⟨false,5,0,0⟩]⟩:TxD)],[⟨5,[2,1]⟩]⟩:HistD) ({zeroC 8 with key:=0,id:=0} : CmdD) (by decide) (by decide)) Tryz.func25 (Args.two (.pagg .t) (.conv (.pagg .t) (Ent.paggLe (zC_le 8 0 0))))) r2 qz (qM rfl rfl (qf (o_extract .t rfl) r1 qz (qf (o_extract .t rfl) r1 qz (qf (oH [.slice none 0 0,.slice none 0 0] 106) trivial qz (qf (oA 2 106 .same (.conv .t .agg)) r2 r1 (qN rfl rfl qZ))))))))) hB [12,10,9,7,6,5,4,3,0] [106,105,104,103,102,101,0] (fun _=>rfl) (fun _=>rfl) fun τ a w F hS=>?_
 try dsimp only [RS.sub,SF.sub,CF.sub,csub,Anc.sub,List.map,Zf,xL,xM,Nat.reduceAdd,xD,xE,xT,xU,xC,xN,zCF,ldSF,Zk,rTx,Zs,ZG,rInt,rOp,rCmd,rS] at hS
 generalize τ 11=v11 at hS
 rw [lve] at hS
 dsimp only at hS
 refine Zb (wp_seq ?_)
 refine Zc hS (qe 2 103 r1 r1 (qf (oB [(0,_),(3,_),(4,_)] [.int .i64 0,.int .i64 0,.bool false,.slice none 0 0,.int .i64 0,.slice none 0 0,.int .i64 0,.int .i64 0,.int .i64 0,.int .i64 0] [(0,1),(1,3),(4,2),(6,1),(7,1),(8,1),(9,1)] (.one rfl qi one_int (by kernel_rfl) (.one rfl qi one_int (by kernel_rfl) (.one rfl qi one_int (by kernel_rfl) .nil)))) trivial qz (qf (oP (Zdr (⟨[(⟨1,true,[⟨false,5,0,0⟩]⟩:TxD),(⟨2,true,[⟨true,5,1,1⟩,⟨false,5,0,0⟩]⟩:TxD)],[⟨5,[2,1]⟩]⟩:HistD) ({zeroC 5 with key:=5,id:=1} : CmdD) (by decide) (by decide)) Tryz.func25 (Args.two (.pagg .t) (.conv (.pagg .t) (Ent.paggLe (zC_le 5 1 5))))) r2 qz (qM rfl rfl (qf (o_extract .t rfl) r1 qz (qf (o_extract .t rfl) r1 qz (qf (oH [.slice none 0 0,.slice none 0 0] 107) trivial qz (qf (oA 2 107 .same (.conv .t .agg)) r2 r1 (qN rfl rfl qZ))))))))) hB [14,13,12,10,9,7,6,5,4,3,0] [107,106,105,104,103,102,101,0] (fun _=>rfl) (fun _=>rfl) fun τ a w F hS=>?_
 try dsimp only [RS.sub,SF.sub,CF.sub,csub,Anc.sub,List.map,Zf,xL,xM,Nat.reduceAdd,xD,xE,xT,xU,xC,xN,zCF,ldSF,Zk,rTx,Zs,ZG,rInt,rOp,rCmd,rS] at hS
 generalize τ 13=v13 at hS
 rw [lvf] at hS
 dsimp only at hS
 refine Zb (wp_seq ?_)
 refine ZbI hS (by kernel_rfl) (nf (oL true 2 103 .is) r1 r1 (nf (oP (ZhN (⟨[(⟨1,true,[⟨false,5,0,0⟩]⟩:TxD),(⟨2,true,[⟨true,5,1,1⟩,⟨false,5,0,0⟩]⟩:TxD)],[⟨5,[2,1]⟩]⟩:HistD) (by decide)) Tryz.func23 (Args.one (.pagg .t))) r1 trivial (nf (Zh (sz:=1) (zs:=[.string ⟨#[]⟩]) (r:=[(0,_),(1,_),(2,_),(3,_)]) (l:=[_,_,_,_]) Tryz.underlying49 (by kernel_rfl) (by kernel_rfl) (by kernel_rfl) (by kernel_rfl) rfl rfl (.one rfl (.cs (by kernel_rfl)) Z2 (by kernel_rfl) (.one rfl (.cs (by kernel_rfl)) Z2 (by kernel_rfl) (.one rfl (.cs (by kernel_rfl)) Z2 (by kernel_rfl) (.one rfl (.cs (by kernel_rfl)) Z2 (by kernel_rfl) .nil)))) rfl) trivial trivial (nf (oP (ZqS _ _) Tryz.func22 (Args.two .t (.conv .t (Ent.arrSl (R:=rS) (l:=[[97,100,100,32,49,32,99,32,119,53],[97,100,100,32,50,32,99,32,119,53],[115,101,116,32,50,32,99,32,114,53,64,49,46,49,32,119,53],[109,111,118,32,53,32,50,32,48]]) rfl)))) r2 trivial (nM rfl rfl (nm rfl rfl rfl rfl (nk rfl (fun h=>Z8 Tryz.underlying26 (.w h)) r2 trivial (nk rfl (fun h=>o_eql (.w h) (.ci (by kernel_rfl))) r2 trivial (nf (ZB .t .t) r2 trivial (nM rfl rfl (nm rfl rfl rfl rfl (nk rfl (fun h=>o_eql (.w h) (.ci (by kernel_rfl))) r2 trivial (nf (ZB .t .t) r2 trivial (nM rfl rfl (nm rfl rfl rfl rfl (nk rfl (fun h=>o_eql (.w h) (.ci (by kernel_rfl))) r2 trivial (nf (ZB .t .t) r2 trivial (nM rfl rfl (nk rfl (fun h=>oL true 2 104 .is) r2 r1 (nk rfl (fun h=>oL true 2 103 .is) r2 r1 (nn [78,77,76,14,13,12,10,9,3,0] [107,106,105,104,103,102,101,0] rfl rfl (nk rfl (fun h=>oP (ZgZ (⟨[(⟨1,true,[⟨false,5,0,0⟩]⟩:TxD),(⟨2,true,[⟨true,5,1,1⟩,⟨false,5,0,0⟩]⟩:TxD)],[⟨5,[2,1]⟩]⟩:HistD) (⟨[(⟨1,true,[⟨false,5,0,0⟩]⟩:TxD),(⟨2,true,[⟨true,5,1,1⟩,⟨false,5,0,0⟩]⟩:TxD)],[⟨5,[2,1]⟩]⟩:HistD)) Tryz.func15 (Args.two (.pagg (.w h)) (.pagg (.w h)))) r3 trivial (nf (ZB .t .t) r2 trivial (nM rfl rfl (nm rfl rfl rfl rfl (nk rfl (fun h=>o_eql (.w h) (.ci (by kernel_rfl))) r2 trivial (nf (ZB .t .t) r2 trivial (nM rfl rfl (nm rfl rfl rfl rfl (nk rfl (fun h=>o_eql (.w h) (.ci (by kernel_rfl))) r2 trivial (nf (ZB .t .t) r2 trivial (nM rfl rfl (nm rfl rfl rfl rfl (nk rfl (fun h=>o_eql (.w h) (.ci (by kernel_rfl))) r2 trivial (nf (ZB .t .t) r2 trivial (nM rfl rfl (nm rfl rfl rfl rfl (nk rfl (fun h=>o_eql (.w h) (.ci (by kernel_rfl))) r2 trivial (nf (ZB .t .t) r2 trivial (nM rfl rfl (nk rfl (fun h=>oL true 2 107 .is) r2 r1 (nn [98,97,3,0] [107,106,105,104,103,102,101,0] rfl rfl (nk rfl (fun h=>oP (ZlK (⟨[(⟨1,true,[⟨false,5,0,0⟩]⟩:TxD),(⟨2,true,[⟨true,5,1,1⟩,⟨false,5,0,0⟩]⟩:TxD)],[⟨5,[1,2]⟩]⟩:HistD) 5) Tryz.func38 (Args.two (.pagg (.w h)) (.ci (by kernel_rfl)))) r2 trivial (nk rfl (fun h=>Zh (sz:=1) (zs:=[.int .i64 0]) (r:=[(0,_),(1,_)]) (l:=[_,_]) Tryz.underlying41 (by kernel_rfl) (by kernel_rfl) (by kernel_rfl) (by kernel_rfl) rfl rfl (.one rfl (.ci (by kernel_rfl)) one_int (by kernel_rfl) (.one rfl (.ci (by kernel_rfl)) one_int (by kernel_rfl) .nil)) rfl) r1 trivial (nk rfl (fun h=>oP (ZgP _ [1,2]) Tryz.func51 (Args.two (.w h) (.conv (.w h) (Ent.arrSl (R:=rInt) (l:=[1,2]) rfl)))) r3 trivial (nf (ZB .t .t) r2 trivial (nM rfl rfl (nk rfl (fun h=>oF 0 103 .is) r2 r1 (nk rfl (fun h=>oL false 1 103 (.w h .adr)) r2 r1 (nk rfl (fun h=>Zhs (r:=[(0,.tmp 105)]) (zs:=[.slice none 0 0,.slice none 0 0]) (pl:=[(0,1),(1,1)]) (by kernel_rfl) (by kernel_rfl) (.one rfl (.w h) one_sl (by kernel_rfl) .nil) (by rfl)) r2 trivial (nk rfl (fun h=>oP (ZhN (⟨[(⟨1,true,[⟨false,5,0,0⟩]⟩:TxD),(⟨2,true,[⟨true,5,1,1⟩,⟨false,5,0,0⟩]⟩:TxD)],[]⟩:HistD) (by decide)) Tryz.func23 (Args.one (.conv (.pagg (.w h)) (Ent.paggLe (l:=[.sl rTx [(⟨1,true,[⟨false,5,0,0⟩]⟩:TxD),(⟨2,true,[⟨true,5,1,1⟩,⟨false,5,0,0⟩]⟩:TxD)],.is (.slice none 0 0)]) (l':=Zk (⟨[(⟨1,true,[⟨false,5,0,0⟩]⟩:TxD),(⟨2,true,[⟨true,5,1,1⟩,⟨false,5,0,0⟩]⟩:TxD)],[]⟩:HistD)) ⟨PVLe.refl,PVLe.nilSl,trivial⟩)))) r2 trivial (nk rfl (fun h=>Z8 Tryz.underlying49 (.w h)) r2 trivial (nk rfl (fun h=>o_eql (.w h) (.ci (by kernel_rfl))) r2 trivial (nf (ZB .t .t) r2 trivial (nM rfl rfl (nk rfl (fun h=>Zhs (r:=[]) (zs:=[.slice none 0 0,.slice none 0 0]) (pl:=[(0,1),(1,1)]) (by kernel_rfl) (by kernel_rfl) .nil (by rfl)) r1 trivial (nk rfl (fun h=>oP (ZbG zeroH (by decide)) Tryz.func17 (Args.one (.conv (.pagg (.w h)) (Ent.paggLe (l:=[.is (.slice none 0 0),.is (.slice none 0 0)]) (l':=Zk zeroH) ⟨PVLe.nilSl,PVLe.nilSl,trivial⟩)))) r2 trivial (nk rfl (fun h=>Z8 Tryz.underlying26 (.w h)) r2 trivial (nk rfl (fun h=>o_eql (.w h) (.ci (by kernel_rfl))) r2 trivial (nf (ZB .t .t) r2 trivial (nN rfl rfl ZT.nil))))))))))))))))))))))))))))))))))))))))))))))))))))))))))))) (by kernel_rfl) (by rw [hB];kernel_rfl) fun a w F hS=>?_
 obtain ⟨F,hS⟩:=hS.nm [0] [107,106,105,104,103,102,101,0] rfl rfl
 try dsimp only [List.map,Zf,xL,xM,Nat.reduceAdd,xD,xE,xT,xU,xC,xN,zCF,ldSF,Zk,rTx,Zs,ZG,rInt,rOp,rCmd,rS] at hS
 refine Zb (wp_ret ?_)
 refine Zq hfr hS rfl rfl rfl (.bool (by rw [lvc,lvs];decide +kernel))
end Go.Proofs.YtjhapicamnijnaaGreat
