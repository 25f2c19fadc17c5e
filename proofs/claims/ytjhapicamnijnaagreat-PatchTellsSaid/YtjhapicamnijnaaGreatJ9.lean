/- Texts put together. No condition beyond those that each theorem says. -/
import Derived.Test.YtjhapicamnijnaaGreatJ7
import Derived.Test.YtjhapicamnijnaaGreatJ2
import Derived.Test.YtjhapicamnijnaaGreatJ6
import Derived.Test.YtjhapicamnijnaaGreatLibE
import Derived.Test.YtjhapicamnijnaaGreatJ8
import Derived.Test.YtjhapicamnijnaaGreatJ5
import Derived.Test.YtjhapicamnijnaaGreatJ3
import Derived.Test.YtjhapicamnijnaaGreatJ4
namespace Go.Proofs.YtjhapicamnijnaaGreat
open Go Go.Gm
set_option linter.unusedVariables false
set_option linter.unusedSimpArgs false
set_option maxHeartbeats 4000000
set_option maxRecDepth 8000
theorem Zib (o:Zn) (id:Int) (hs:Zai o.txs):FnP Tryz.prog 93 [.agg (Zj o),.int .i64 id] (.bool (Zas o.txs id).isSome):=by
 refine FnP.mk Tryz.func93 rfl Tryz.ntmps93 rfl ?_
 intro B a w F hB hfr hS
 refine wp_seq ?_
 refine Zc hS (qx 101 r1 qB) hB [4,2,1] [101,0] (fun _=>rfl) (fun _=>rfl) fun τ a w F hS=>?_
 try dsimp only [RS.sub,SF.sub,CF.sub,csub,Anc.sub,List.map,zCF,Zj,rTx,Zs,Zv,rInt,rOp] at hS
 generalize τ 2=v2 at hS
 refine Za (wp_seq ?_)
 refine Zc hS (qe 2 101 r1 r1 (qM rfl rfl (qf (oP (ZbH o id hs) Tryz.func128 (Args.two (.pagg .t) .t)) r2 qz (qM rfl rfl (qf (o_extract .t rfl) r1 qz (qf (o_extract .t rfl) r1 qz (qf (oH [.int .i64 0,.bool false,.slice none 0 0] 102) trivial qz (qf (oA 3 102 .same (.conv .t .agg)) r2 r1 (qN rfl rfl qZ))))))))) hB [6,4] [102,101,0] (fun _=>rfl) (fun _=>rfl) fun τ a w F hS=>?_
 try dsimp only [RS.sub,SF.sub,CF.sub,csub,Anc.sub,List.map,Zf,xL,xM,Nat.reduceAdd,xD,xE,xT,xU,xC,xN,zCF,ldSF,Zj,rTx,Zs,Zv,rInt,rOp] at hS
 generalize τ 5=v5 at hS
 refine Za (wp_seq ?_)
 refine Zb hS (qM rfl rfl (qN rfl rfl qZ)) hB [4] [102,101,0] rfl rfl fun a w F hS=>Za (wp_ret ?_)
 refine Zr hfr hS rfl rfl rfl .refl
theorem Zf9 (o:Zn) (t:TxD) (hs:Zai o.txs):FnP Tryz.prog 91 [.agg (Zj o),.agg (rTx t)] (.bool (Za1 o t)):=by
 refine FnP.mk Tryz.func91 rfl Tryz.ntmps91 rfl ?_
 intro B a w F hB hfr hS
 refine wp_seq ?_
 refine Zc hS (qx 101 r1 (qx 102 r1 qB)) hB [4,3,2] [102,101,0] (fun _=>rfl) (fun _=>rfl) fun τ a w F hS=>?_
 try dsimp only [RS.sub,SF.sub,CF.sub,csub,Anc.sub,List.map,zCF,Zj,rTx,Zs,Zv,rInt,rOp] at hS
 generalize τ 2=v2 at hS
 generalize τ 3=v3 at hS
 refine Za (wp_seq ?_)
 refine Zc hS (qe 2 101 r1 r1 (qg 0 102 r1 r1 (qa 102 r1 r1 (qf (oP (ZbH o t.id hs) Tryz.func128 (Args.two (.pagg .t) .t)) r2 qz (qM rfl rfl (qf (o_extract .t rfl) r1 qz (qf (o_extract .t rfl) r1 qz (qf (oH [.int .i64 0,.bool false,.slice none 0 0] 103) trivial qz (qf (oA 3 103 .same (.conv .t .agg)) r2 r1 (qN rfl rfl qZ)))))))))) hB [6,5,4,3] [103,102,101,0] (fun _=>rfl) (fun _=>rfl) fun τ a w F hS=>?_
 try dsimp only [RS.sub,SF.sub,CF.sub,csub,Anc.sub,List.map,Zf,xL,xM,Nat.reduceAdd,xD,xE,xT,xU,xC,xN,zCF,ldSF,Zj,rTx,Zs,Zv,rInt,rOp] at hS
 generalize τ 5=v5 at hS
 refine Za (wp_seq ?_)
 refine Zb hS (qM rfl rfl (qM rfl rfl (qk rfl (fun h=>oL true 3 102 .is) r2 r1 (qk rfl (fun h=>oL true 3 103 .is) r2 r1 (qk rfl (fun h=>oP (Zff _ _) Tryz.func41 (Args.two (.pagg (.w h)) (.pagg (.w h)))) r3 qz (qf (Zy .t .t) r2 qz (qN rfl rfl qZ))))))) hB [4] [103,102,101,0] rfl rfl fun a w F hS=>Za (wp_ret ?_)
 refine Zr hfr hS rfl rfl rfl (.bool (by first | rfl | simp [Za1]))
theorem Zhe (t:TxD) (ht:t.ops.length≤1000):FnP Tryz.prog 92 [.agg (rTx t)] (.bool (Za5 t)):=by
 refine FnP.mk Tryz.func92 rfl Tryz.ntmps92 rfl ?_
 intro B a w F hB hfr hS
 refine wp_seq ?_
 refine Zc hS (qx 101 r1 qB) hB [2,1] [101,0] (fun _=>rfl) (fun _=>rfl) fun τ a w F hS=>?_
 try dsimp only [RS.sub,SF.sub,CF.sub,csub,Anc.sub,List.map,zCF,Zj,rTx,Zs,Zv,rInt,rOp] at hS
 generalize τ 1=v1 at hS
 refine Za (wp_seq ?_)
 refine ZE hS (qe 3 101 r1 r1 (qe 3 101 r1 r1 (qf (oP (ZdG t (by omega)) Tryz.func52 (Args.one (.pagg .t))) r1 qz (qf (oP (Zff _ _) Tryz.func41 (Args.two (.pagg .t) .t)) r2 qz (qf (o_not .t) r1 qz (qN rfl rfl qZ)))))) hB [2] [101,0] rfl rfl fun a w F hS=>?_
 try dsimp only [List.map,xD,xE,xT,xU,ldSF,Zj,rTx,Zs,Zv,rInt,rOp] at hS
 refine Za (wp_ret ?_)
 refine Zr hfr hS rfl rfl rfl (.bool (ZkY t))
theorem Zm4 (g o:Zn) (hs:Zai g.txs) (ho:Zai o.txs):FnG Tryz.prog 36 1 [.agg (Zj g),.agg (Zj o)] [.star []] (PV.one) (fun v=>[Zw 45 10 rCmd (ZI g o) v]):=by
 refine FnG.mk Tryz.func36 rfl Tryz.ntmps36 rfl (by kernel_rfl) ?_
 intro B F0 a w F hB hG hS
 have hsl:=hs.1
 have hol9:=ho.1
 have hlA:(fA g o).length≤1000:=Nat.le_trans (Zad _ _ _) hsl
 have hlB:(fB g o).length≤1000:=Nat.le_trans (Zad _ _ _) hsl
 have hlC:(fC g o).length≤1000:=Nat.le_trans (Zad _ _ _) hol9
 have hlD:(fD g o).length≤1000:=Nat.le_trans (Zad _ _ _) hol9
 obtain ⟨F,hS⟩:=hS.nm [1,0] [0] rfl rfl
 refine wp_seq ?_
 refine Zc hS (qx 101 r1 (qx 102 r1 (qC qZ))) hB [4,3,2] [102,101,0] (fun _=>rfl) (fun _=>rfl) fun τ a w F hS=>?_
 try dsimp only [RS.sub,SF.sub,CF.sub,csub,Anc.sub,List.map,zCF,Zj,rTx,Zs,Zv,rInt,rOp,rCmd,ZC,Zaj,ZH,Zu] at hS
 generalize τ 2=v2 at hS
 generalize τ 3=v3 at hS
 refine Za (wp_seq ?_)
 refine Zb hS (qC qZ) hB [5,4,3,2] [102,101,0] rfl rfl fun a w F hS=>Za (wp_seq (wp_seq ?_))
 refine Zb hS (qg 0 101 r1 r1 (qa 101 r1 r1 (qu Tryz.underlying22 r1 (qJ qZ)))) hB [19,18,17,5,4,3,2] [102,101,0] rfl rfl fun a w F hS=>Za (wp_block ?_)
 replace hS:=hS.fresh 50 rfl
 replace hS:=hS.turn 50 rfl (Zaf (T:=45) (sz:=10) (R:=rCmd))
 refine Zl (σ:=(Nat)×(Value)×(List CmdD)) [2,3,4,17,18] [0,101,102] (fun s=>[(19,.pv (.int .i64 (s.1:Int))),(5,.pv (.is s.2.1))]) (fun s=>[(50,.ob (.val s.2.1) (Zw 45 10 rCmd s.2.2))]) (fun s=>s.1≤g.txs.length∧(s.2.2=([]:List CmdD)++((g.txs.take s.1).filter (fun t=>!Za1 o t && Za5 t)).map (fun t=>ZbV (bareT t)))) (fun s=>g.txs.length - s.1) ((0),(.slice none 0 0),(([]:List CmdD))) hS ⟨rfl,rfl,rfl,rfl,rfl,rfl,rfl,trivial⟩ ⟨rfl,rfl,rfl,rfl,trivial⟩ ⟨Nat.zero_le _,(by simp)⟩ ?_
 clear hS;intro s a w F hC hS
 obtain ⟨i,v,out⟩:=s
 try dsimp only at hC
 obtain ⟨F,hS⟩:=hS.nm [19,18,17,5,4,3,2] [102,101,50,0] rfl rfl
 try dsimp only at hS
 obtain ⟨hi,hq⟩:=hC
 have hol:=Zhi hq
 try simp only [List.length_append,List.length_nil] at hol
 refine wp_seq ?_
 refine Zb hS (qL r2) hB [20,19,18,17,5,4,3,2] [102,101,50,0] rfl rfl fun a w F hS=>Za (wp_seq ?_)
 refine Zd hS rfl (fun hc0=>?_) (fun hc0=>?_)
 ·skip
  have hil:i<g.txs.length:=by simp at hc0;omega
  have hio:=hil
  refine wp_skip (Za (wp_seq (wp_block (wp_seq ?_))))
  refine Zc hS (qy 3 Tryz.underlying22 r2 (qf (oR true 3 .t) r1 qz (qf (oH [.int .i64 0,.bool false,.slice none 0 0] 103) trivial qz (qS 3 103 r2 r1 qZ)))) hB [19,18,17,7,5,4,3,2] [103,102,101,50,0] (fun _=>rfl) (fun _=>rfl) fun τ a w F hS=>?_
  try dsimp only [RS.sub,SF.sub,CF.sub,csub,Anc.sub,List.map,Zf,xL,xM,Nat.reduceAdd,xD,xE,xT,xU,xC,xN,zCF,ldSF,Zj,rTx,Zs,Zv,rInt,rOp,rCmd,ZC,Zaj,ZH,Zu] at hS
  generalize τ 7=v7 at hS
  try simp only [Int.toNat_natCast] at hS
  refine Za (wp_seq ?_)
  refine Zb hS (qe 2 102 r1 r1 (qe 3 103 r1 r1 (qf (oP (Zf9 o (Go.Gm.nth g.txs i) ho) Tryz.func91 (Args.two (.pagg .t) (.pagg .t))) r2 qz (qf (o_not .t) r1 qz (qM rfl rfl (qk rfl (fun h=>oL true 3 103 .is) r2 r1 (qk rfl (fun h=>oP (Zhe (Go.Gm.nth g.txs i) (by have:=hs.at hio;omega)) Tryz.func92 (Args.one (.pagg (.w h)))) r2 qz (qf (Zy .t .t) r2 qz qZ)))))))) hB [30,19,18,17,7,5,4,3,2] [103,102,101,50,0] rfl rfl fun a w F hS=>Za ?_
  refine Zd hS rfl (fun hc1=>?_) (fun hc1=>?_)
  ·skip
   have k9:out ++ [(fun t=>ZbV (bareT t)) (Go.Gm.nth g.txs i)] = ([]:List CmdD)++((g.txs.take (i+1)).filter (fun t=>!Za1 o t && Za5 t)).map (fun t=>ZbV (bareT t)):=Zhb (f:=fun t=>!Za1 o t && Za5 t) (m:=fun t=>ZbV (bareT t)) hq hio (by simpa [Zb5] using hc1)
   refine Zc hS (qM rfl rfl (qe 3 103 r1 r1 (qf (oP (ZdG (Go.Gm.nth g.txs i) (by have:=hs.at hio;omega)) Tryz.func52 (Args.one (.pagg .t))) r1 qz (qf (oB [(0,_),(1,.tmp 33)] [.int .i64 0,.int .i64 0,.bool false,.slice none 0 0,.int .i64 0,.slice none 0 0,.int .i64 0,.int .i64 0,.int .i64 0,.int .i64 0] [(0,1),(1,3),(4,2),(6,1),(7,1),(8,1),(9,1)] (.one rfl qi one_int (by kernel_rfl) (.agg rfl (.conv .t .agg) (by kernel_rfl) (by kernel_rfl) .nil))) r1 qz (qf (Zh (sz:=10) (zs:=[.int .i64 0,.int .i64 0,.bool false,.slice none 0 0,.int .i64 0,.slice none 0 0,.int .i64 0,.int .i64 0,.int .i64 0,.int .i64 0]) (r:=[(0,.tmp 34)]) (l:=[_,_,_,_,_,_,_,_,_,_]) Tryz.underlying26 (by kernel_rfl) (by kernel_rfl) (by kernel_rfl) (by kernel_rfl) rfl rfl (.agg rfl .t (by kernel_rfl) (by kernel_rfl) .nil) rfl) r1 qz (qf (o_append (sz:=10) (bs:=112) 50 (.mk' Tryz.underlying26 (by kernel_rfl) (by kernel_rfl)) (by intro x;rfl) .is (.sl (.conv .t (entArr (l:=[.int .i64 2,.int .i64 (bareT (Go.Gm.nth g.txs i)).id,.bool (bareT (Go.Gm.nth g.txs i)).done,.sl rOp (bareT (Go.Gm.nth g.txs i)).ops,.int .i64 0,.is (.slice none 0 0),.int .i64 0,.int .i64 0,.int .i64 0,.int .i64 0]) (R:=rCmd) (l':=[ZbV (bareT (Go.Gm.nth g.txs i))]) rfl ⟨PVLe.refl,PVLe.refl,PVLe.refl,PVLe.refl,PVLe.refl,PVLe.nilSl,PVLe.refl,PVLe.refl,PVLe.refl,PVLe.refl,trivial⟩))) (by simp only [List.length_append,List.length_cons,List.length_nil];omega) (by decide)) ⟨rfl,rfl,trivial⟩ ⟨rfl,trivial⟩ (qN rfl rfl qZ))))))) hB [19,18,17,5,4,3,2] [103,102,101,50,0] (fun _=>rfl) (fun _=>rfl) fun τ a w F hS=>?_
   try dsimp only [RS.sub,SF.sub,CF.sub,csub,Anc.sub,List.map,Zf,xL,xM,Nat.reduceAdd,xD,xE,xT,xU,xC,xN,zCF,ldSF,Zj,rTx,Zs,Zv,rInt,rOp,rCmd,ZC,Zaj,ZH,Zu] at hS
   generalize τ 36=v36 at hS
   refine Zi (Za ?_)
   refine Zb hS (qp r1 (qM rfl rfl qZ)) hB [19,18,17,5,4,3,2] [103,102,101,50,0] rfl rfl fun a w F hS=>Za ?_
   replace hS:=hS.ent (i:=19) (s':=.pv (.int .i64 ((i+1:Nat):Int))) rfl (.int (Ze (by omega)))
   obtain ⟨F,hS⟩:=hS.nm [18,17,4,3,2,5,19] [102,101,0,50] rfl rfl
   exact ⟨((i+1),_,_),F,⟨by omega,k9⟩,hS,by omega⟩
  have k9:out=([]:List CmdD)++((g.txs.take (i+1)).filter (fun t=>!Za1 o t && Za5 t)).map (fun t=>ZbV (bareT t)):=Zko (f:=fun t=>!Za1 o t && Za5 t) (m:=fun t=>ZbV (bareT t)) hq hio (by simpa [Zb5] using hc1)
  refine wp_skip (Zi (Za ?_))
  refine Zb hS (qp r1 (qM rfl rfl qZ)) hB [19,18,17,5,4,3,2] [103,102,101,50,0] rfl rfl fun a w F hS=>Za ?_
  replace hS:=hS.ent (i:=19) (s':=.pv (.int .i64 ((i+1:Nat):Int))) rfl (.int (Ze (by omega)))
  obtain ⟨F,hS⟩:=hS.nm [18,17,4,3,2,5,19] [102,101,0,50] rfl rfl
  exact ⟨((i+1),_,_),F,⟨by omega,k9⟩,hS,by omega⟩
 have hil:i=g.txs.length:=by simp at hc0;omega
 have hqe:out=(fA g o):=by rw [hq,hil,List.take_length];rfl
 subst hqe
 refine wp_exit (Zk (Zk (Zq (Za (wp_seq (wp_seq ?_))))))
 refine Zb hS (qg 0 101 r1 r1 (qa 101 r1 r1 (qu Tryz.underlying22 r1 (qJ qZ)))) hB [41,40,39,5,4,3,2] [102,101,50,0] rfl rfl fun a w F hS=>Za (wp_block ?_)
 refine Zl (σ:=(Nat)×(Value)×(List CmdD)) [2,3,4,39,40] [0,101,102] (fun s=>[(41,.pv (.int .i64 (s.1:Int))),(5,.pv (.is s.2.1))]) (fun s=>[(50,.ob (.val s.2.1) (Zw 45 10 rCmd s.2.2))]) (fun s=>s.1≤g.txs.length∧(s.2.2=(fA g o)++((g.txs.take s.1).filter (fun t=>!Zb5 o t)).map (Zeu))) (fun s=>g.txs.length - s.1) ((0),(v),((fA g o))) hS ⟨rfl,rfl,rfl,rfl,rfl,rfl,rfl,trivial⟩ ⟨rfl,rfl,rfl,rfl,trivial⟩ ⟨Nat.zero_le _,(by simp)⟩ ?_
 clear hS;intro s a w F hC hS
 obtain ⟨i,v,out⟩:=s
 try dsimp only at hC
 obtain ⟨F,hS⟩:=hS.nm [41,40,39,5,4,3,2] [102,101,50,0] rfl rfl
 try dsimp only at hS
 obtain ⟨hi,hq⟩:=hC
 have hol:=Zhi hq
 try simp only [List.length_append,List.length_nil] at hol
 refine wp_seq ?_
 refine Zb hS (qL r2) hB [42,41,40,39,5,4,3,2] [102,101,50,0] rfl rfl fun a w F hS=>Za (wp_seq ?_)
 refine Zd hS rfl (fun hc2=>?_) (fun hc2=>?_)
 ·skip
  have hil:i<g.txs.length:=by simp at hc2;omega
  have hio:=hil
  refine wp_skip (Za (wp_seq (wp_block (wp_seq ?_))))
  refine Zc hS (qy 3 Tryz.underlying22 r2 (qf (oR true 3 .t) r1 qz (qf (oH [.int .i64 0,.bool false,.slice none 0 0] 104) trivial qz (qS 3 104 r2 r1 qZ)))) hB [41,40,39,9,5,4,3,2] [104,102,101,50,0] (fun _=>rfl) (fun _=>rfl) fun τ a w F hS=>?_
  try dsimp only [RS.sub,SF.sub,CF.sub,csub,Anc.sub,List.map,Zf,xL,xM,Nat.reduceAdd,xD,xE,xT,xU,xC,xN,zCF,ldSF,Zj,rTx,Zs,Zv,rInt,rOp,rCmd,ZC,Zaj,ZH,Zu] at hS
  generalize τ 9=v9 at hS
  try simp only [Int.toNat_natCast] at hS
  refine Za (wp_seq ?_)
  refine Zb hS (qe 2 102 r1 r1 (qg 0 104 r1 r1 (qa 104 r1 r1 (qf (oP (Zib o (Go.Gm.nth g.txs i).id ho) Tryz.func93 (Args.two (.pagg .t) .t)) r2 qz (qf (o_not .t) r1 qz qZ))))) hB [49,41,40,39,9,5,4,3,2] [104,102,101,50,0] rfl rfl fun a w F hS=>Za ?_
  refine Zd hS rfl (fun hc3=>?_) (fun hc3=>?_)
  ·skip
   have k9:out ++ [(Zeu) (Go.Gm.nth g.txs i)] = (fA g o)++((g.txs.take (i+1)).filter (fun t=>!Zb5 o t)).map (Zeu):=Zhb (f:=fun t=>!Zb5 o t) (m:=Zeu) hq hio (by simpa [Zb5] using hc3)
   refine Zc hS (qM rfl rfl (qg 0 104 r1 r1 (qa 104 r1 r1 (qf (oB [(0,_),(4,.tmp 52)] [.int .i64 0,.int .i64 0,.bool false,.slice none 0 0,.int .i64 0,.slice none 0 0,.int .i64 0,.int .i64 0,.int .i64 0,.int .i64 0] [(0,1),(1,3),(4,2),(6,1),(7,1),(8,1),(9,1)] (.one rfl qi one_int (by kernel_rfl) (.one rfl .t one_int (by kernel_rfl) .nil))) r1 qz (qf (Zh (sz:=10) (zs:=[.int .i64 0,.int .i64 0,.bool false,.slice none 0 0,.int .i64 0,.slice none 0 0,.int .i64 0,.int .i64 0,.int .i64 0,.int .i64 0]) (r:=[(0,.tmp 53)]) (l:=[_,_,_,_,_,_,_,_,_,_]) Tryz.underlying26 (by kernel_rfl) (by kernel_rfl) (by kernel_rfl) (by kernel_rfl) rfl rfl (.agg rfl .t (by kernel_rfl) (by kernel_rfl) .nil) rfl) r1 qz (qf (o_append (sz:=10) (bs:=112) 50 (.mk' Tryz.underlying26 (by kernel_rfl) (by kernel_rfl)) (by intro x;rfl) .is (.sl (.conv .t (entArr (l:=[.int .i64 3,.int .i64 0,.bool false,.is (.slice none 0 0),.int .i64 0,.is (.slice none 0 0),.int .i64 0,.int .i64 (Go.Gm.nth g.txs i).id,.int .i64 0,.int .i64 0]) (R:=rCmd) (l':=[Zeu (Go.Gm.nth g.txs i)]) rfl ⟨PVLe.refl,PVLe.refl,PVLe.refl,PVLe.nilSl,PVLe.refl,PVLe.nilSl,PVLe.refl,PVLe.refl,PVLe.refl,PVLe.refl,trivial⟩))) (by simp only [List.length_append,List.length_cons,List.length_nil];omega) (by decide)) ⟨rfl,rfl,trivial⟩ ⟨rfl,trivial⟩ (qN rfl rfl qZ))))))) hB [41,40,39,5,4,3,2] [104,102,101,50,0] (fun _=>rfl) (fun _=>rfl) fun τ a w F hS=>?_
   try dsimp only [RS.sub,SF.sub,CF.sub,csub,Anc.sub,List.map,Zf,xL,xM,Nat.reduceAdd,xD,xE,xT,xU,xC,xN,zCF,ldSF,Zj,rTx,Zs,Zv,rInt,rOp,rCmd,ZC,Zaj,ZH,Zu] at hS
   generalize τ 55=v55 at hS
   refine Zi (Za ?_)
   refine Zb hS (qp r1 (qM rfl rfl qZ)) hB [41,40,39,5,4,3,2] [104,102,101,50,0] rfl rfl fun a w F hS=>Za ?_
   replace hS:=hS.ent (i:=41) (s':=.pv (.int .i64 ((i+1:Nat):Int))) rfl (.int (Ze (by omega)))
   obtain ⟨F,hS⟩:=hS.nm [40,39,4,3,2,5,41] [102,101,0,50] rfl rfl
   exact ⟨((i+1),_,_),F,⟨by omega,k9⟩,hS,by omega⟩
  have k9:out=(fA g o)++((g.txs.take (i+1)).filter (fun t=>!Zb5 o t)).map (Zeu):=Zko (f:=fun t=>!Zb5 o t) (m:=Zeu) hq hio (by simpa [Zb5] using hc3)
  refine wp_skip (Zi (Za ?_))
  refine Zb hS (qp r1 (qM rfl rfl qZ)) hB [41,40,39,5,4,3,2] [104,102,101,50,0] rfl rfl fun a w F hS=>Za ?_
  replace hS:=hS.ent (i:=41) (s':=.pv (.int .i64 ((i+1:Nat):Int))) rfl (.int (Ze (by omega)))
  obtain ⟨F,hS⟩:=hS.nm [40,39,4,3,2,5,41] [102,101,0,50] rfl rfl
  exact ⟨((i+1),_,_),F,⟨by omega,k9⟩,hS,by omega⟩
 have hil:i=g.txs.length:=by simp at hc2;omega
 have hqe:out=(fA g o++fB g o):=by rw [hq,hil,List.take_length];rfl
 subst hqe
 refine wp_exit (Zk (Zk (Zq (Za (wp_seq (wp_seq ?_))))))
 refine Zb hS (qg 0 102 r1 r1 (qa 102 r1 r1 (qu Tryz.underlying22 r1 (qJ qZ)))) hB [60,59,58,5,4,3,2] [102,101,50,0] rfl rfl fun a w F hS=>Za (wp_block ?_)
 refine Zl (σ:=(Nat)×(Value)×(List CmdD)) [2,3,4,58,59] [0,101,102] (fun s=>[(60,.pv (.int .i64 (s.1:Int))),(5,.pv (.is s.2.1))]) (fun s=>[(50,.ob (.val s.2.1) (Zw 45 10 rCmd s.2.2))]) (fun s=>s.1≤o.txs.length∧(s.2.2=(fA g o++fB g o)++((o.txs.take s.1).filter (fun t=>Zb5 g t && !Za1 g t)).map (fun t=>ZbV (bareT t)))) (fun s=>o.txs.length - s.1) ((0),(v),((fA g o++fB g o))) hS ⟨rfl,rfl,rfl,rfl,rfl,rfl,rfl,trivial⟩ ⟨rfl,rfl,rfl,rfl,trivial⟩ ⟨Nat.zero_le _,(by simp)⟩ ?_
 clear hS;intro s a w F hC hS
 obtain ⟨i,v,out⟩:=s
 try dsimp only at hC
 obtain ⟨F,hS⟩:=hS.nm [60,59,58,5,4,3,2] [102,101,50,0] rfl rfl
 try dsimp only at hS
 obtain ⟨hi,hq⟩:=hC
 have hol:=Zhi hq
 try simp only [List.length_append,List.length_nil] at hol
 refine wp_seq ?_
 refine Zb hS (qL r2) hB [61,60,59,58,5,4,3,2] [102,101,50,0] rfl rfl fun a w F hS=>Za (wp_seq ?_)
 refine Zd hS rfl (fun hc4=>?_) (fun hc4=>?_)
 ·skip
  have hil:i<o.txs.length:=by simp at hc4;omega
  have hio:=hil
  refine wp_skip (Za (wp_seq (wp_block (wp_seq ?_))))
  refine Zc hS (qy 3 Tryz.underlying22 r2 (qf (oR true 3 .t) r1 qz (qf (oH [.int .i64 0,.bool false,.slice none 0 0] 105) trivial qz (qS 3 105 r2 r1 qZ)))) hB [60,59,58,11,5,4,3,2] [105,102,101,50,0] (fun _=>rfl) (fun _=>rfl) fun τ a w F hS=>?_
  try dsimp only [RS.sub,SF.sub,CF.sub,csub,Anc.sub,List.map,Zf,xL,xM,Nat.reduceAdd,xD,xE,xT,xU,xC,xN,zCF,ldSF,Zj,rTx,Zs,Zv,rInt,rOp,rCmd,ZC,Zaj,ZH,Zu] at hS
  generalize τ 11=v11 at hS
  try simp only [Int.toNat_natCast] at hS
  refine Za (wp_seq ?_)
  refine Zb hS (qe 2 101 r1 r1 (qg 0 105 r1 r1 (qa 105 r1 r1 (qf (oP (Zib g (Go.Gm.nth o.txs i).id hs) Tryz.func93 (Args.two (.pagg .t) .t)) r2 qz (qM rfl rfl (qk rfl (fun h=>oL true 2 101 .is) r2 r1 (qk rfl (fun h=>oL true 3 105 .is) r2 r1 (qk rfl (fun h=>oP (Zf9 g (Go.Gm.nth o.txs i) hs) Tryz.func91 (Args.two (.pagg (.w h)) (.pagg (.w h)))) r3 qz (qk rfl (fun h=>o_not (.w h)) r2 qz (qf (Zy .t .t) r2 qz qZ)))))))))) hB [73,60,59,58,11,5,4,3,2] [105,102,101,50,0] rfl rfl fun a w F hS=>Za ?_
  refine Zd hS rfl (fun hc5=>?_) (fun hc5=>?_)
  ·skip
   have k9:out ++ [(fun t=>ZbV (bareT t)) (Go.Gm.nth o.txs i)] = (fA g o++fB g o)++((o.txs.take (i+1)).filter (fun t=>Zb5 g t && !Za1 g t)).map (fun t=>ZbV (bareT t)):=Zhb (f:=fun t=>Zb5 g t && !Za1 g t) (m:=fun t=>ZbV (bareT t)) hq hio (by simpa [Zb5] using hc5)
   refine Zc hS (qM rfl rfl (qe 3 105 r1 r1 (qf (oP (ZdG (Go.Gm.nth o.txs i) (by have:=ho.at hio;omega)) Tryz.func52 (Args.one (.pagg .t))) r1 qz (qf (oB [(0,_),(1,.tmp 76)] [.int .i64 0,.int .i64 0,.bool false,.slice none 0 0,.int .i64 0,.slice none 0 0,.int .i64 0,.int .i64 0,.int .i64 0,.int .i64 0] [(0,1),(1,3),(4,2),(6,1),(7,1),(8,1),(9,1)] (.one rfl qi one_int (by kernel_rfl) (.agg rfl (.conv .t .agg) (by kernel_rfl) (by kernel_rfl) .nil))) r1 qz (qf (Zh (sz:=10) (zs:=[.int .i64 0,.int .i64 0,.bool false,.slice none 0 0,.int .i64 0,.slice none 0 0,.int .i64 0,.int .i64 0,.int .i64 0,.int .i64 0]) (r:=[(0,.tmp 77)]) (l:=[_,_,_,_,_,_,_,_,_,_]) Tryz.underlying26 (by kernel_rfl) (by kernel_rfl) (by kernel_rfl) (by kernel_rfl) rfl rfl (.agg rfl .t (by kernel_rfl) (by kernel_rfl) .nil) rfl) r1 qz (qf (o_append (sz:=10) (bs:=112) 50 (.mk' Tryz.underlying26 (by kernel_rfl) (by kernel_rfl)) (by intro x;rfl) .is (.sl (.conv .t (entArr (l:=[.int .i64 2,.int .i64 (bareT (Go.Gm.nth o.txs i)).id,.bool (bareT (Go.Gm.nth o.txs i)).done,.sl rOp (bareT (Go.Gm.nth o.txs i)).ops,.int .i64 0,.is (.slice none 0 0),.int .i64 0,.int .i64 0,.int .i64 0,.int .i64 0]) (R:=rCmd) (l':=[ZbV (bareT (Go.Gm.nth o.txs i))]) rfl ⟨PVLe.refl,PVLe.refl,PVLe.refl,PVLe.refl,PVLe.refl,PVLe.nilSl,PVLe.refl,PVLe.refl,PVLe.refl,PVLe.refl,trivial⟩))) (by simp only [List.length_append,List.length_cons,List.length_nil];omega) (by decide)) ⟨rfl,rfl,trivial⟩ ⟨rfl,trivial⟩ (qN rfl rfl qZ))))))) hB [60,59,58,5,4,3,2] [105,102,101,50,0] (fun _=>rfl) (fun _=>rfl) fun τ a w F hS=>?_
   try dsimp only [RS.sub,SF.sub,CF.sub,csub,Anc.sub,List.map,Zf,xL,xM,Nat.reduceAdd,xD,xE,xT,xU,xC,xN,zCF,ldSF,Zj,rTx,Zs,Zv,rInt,rOp,rCmd,ZC,Zaj,ZH,Zu] at hS
   generalize τ 79=v79 at hS
   refine Zi (Za ?_)
   refine Zb hS (qp r1 (qM rfl rfl qZ)) hB [60,59,58,5,4,3,2] [105,102,101,50,0] rfl rfl fun a w F hS=>Za ?_
   replace hS:=hS.ent (i:=60) (s':=.pv (.int .i64 ((i+1:Nat):Int))) rfl (.int (Ze (by omega)))
   obtain ⟨F,hS⟩:=hS.nm [59,58,4,3,2,5,60] [102,101,0,50] rfl rfl
   exact ⟨((i+1),_,_),F,⟨by omega,k9⟩,hS,by omega⟩
  have k9:out=(fA g o++fB g o)++((o.txs.take (i+1)).filter (fun t=>Zb5 g t && !Za1 g t)).map (fun t=>ZbV (bareT t)):=Zko (f:=fun t=>Zb5 g t && !Za1 g t) (m:=fun t=>ZbV (bareT t)) hq hio (by simpa [Zb5] using hc5)
  refine wp_skip (Zi (Za ?_))
  refine Zb hS (qp r1 (qM rfl rfl qZ)) hB [60,59,58,5,4,3,2] [105,102,101,50,0] rfl rfl fun a w F hS=>Za ?_
  replace hS:=hS.ent (i:=60) (s':=.pv (.int .i64 ((i+1:Nat):Int))) rfl (.int (Ze (by omega)))
  obtain ⟨F,hS⟩:=hS.nm [59,58,4,3,2,5,60] [102,101,0,50] rfl rfl
  exact ⟨((i+1),_,_),F,⟨by omega,k9⟩,hS,by omega⟩
 have hil:i=o.txs.length:=by simp at hc4;omega
 have hqe:out=(fA g o++fB g o++fC g o):=by rw [hq,hil,List.take_length];rfl
 subst hqe
 refine wp_exit (Zk (Zk (Zq (Za (wp_seq (wp_seq ?_))))))
 refine Zb hS (qg 0 102 r1 r1 (qa 102 r1 r1 (qu Tryz.underlying22 r1 (qJ qZ)))) hB [84,83,82,5,4,3,2] [102,101,50,0] rfl rfl fun a w F hS=>Za (wp_block ?_)
 refine Zl (σ:=(Nat)×(Value)×(List CmdD)) [2,3,4,82,83] [0,101,102] (fun s=>[(84,.pv (.int .i64 (s.1:Int))),(5,.pv (.is s.2.1))]) (fun s=>[(50,.ob (.val s.2.1) (Zw 45 10 rCmd s.2.2))]) (fun s=>s.1≤o.txs.length∧(s.2.2=(fA g o++fB g o++fC g o)++((o.txs.take s.1).filter (fun t=>!Zb5 g t)).map (Zem))) (fun s=>o.txs.length - s.1) ((0),(v),((fA g o++fB g o++fC g o))) hS ⟨rfl,rfl,rfl,rfl,rfl,rfl,rfl,trivial⟩ ⟨rfl,rfl,rfl,rfl,trivial⟩ ⟨Nat.zero_le _,(by simp)⟩ ?_
 clear hS;intro s a w F hC hS
 obtain ⟨i,v,out⟩:=s
 try dsimp only at hC
 obtain ⟨F,hS⟩:=hS.nm [84,83,82,5,4,3,2] [102,101,50,0] rfl rfl
 try dsimp only at hS
 obtain ⟨hi,hq⟩:=hC
 have hol:=Zhi hq
 try simp only [List.length_append,List.length_nil] at hol
 refine wp_seq ?_
 refine Zb hS (qL r2) hB [85,84,83,82,5,4,3,2] [102,101,50,0] rfl rfl fun a w F hS=>Za (wp_seq ?_)
 refine Zd hS rfl (fun hc6=>?_) (fun hc6=>?_)
 ·skip
  have hil:i<o.txs.length:=by simp at hc6;omega
  have hio:=hil
  refine wp_skip (Za (wp_seq (wp_block (wp_seq ?_))))
  refine Zc hS (qy 3 Tryz.underlying22 r2 (qf (oR true 3 .t) r1 qz (qf (oH [.int .i64 0,.bool false,.slice none 0 0] 106) trivial qz (qS 3 106 r2 r1 qZ)))) hB [84,83,82,13,5,4,3,2] [106,102,101,50,0] (fun _=>rfl) (fun _=>rfl) fun τ a w F hS=>?_
  try dsimp only [RS.sub,SF.sub,CF.sub,csub,Anc.sub,List.map,Zf,xL,xM,Nat.reduceAdd,xD,xE,xT,xU,xC,xN,zCF,ldSF,Zj,rTx,Zs,Zv,rInt,rOp,rCmd,ZC,Zaj,ZH,Zu] at hS
  generalize τ 13=v13 at hS
  try simp only [Int.toNat_natCast] at hS
  refine Za (wp_seq ?_)
  refine Zb hS (qe 2 101 r1 r1 (qg 0 106 r1 r1 (qa 106 r1 r1 (qf (oP (Zib g (Go.Gm.nth o.txs i).id hs) Tryz.func93 (Args.two (.pagg .t) .t)) r2 qz (qf (o_not .t) r1 qz qZ))))) hB [92,84,83,82,13,5,4,3,2] [106,102,101,50,0] rfl rfl fun a w F hS=>Za ?_
  refine Zd hS rfl (fun hc7=>?_) (fun hc7=>?_)
  ·skip
   have k9:out ++ [(Zem) (Go.Gm.nth o.txs i)] = (fA g o++fB g o++fC g o)++((o.txs.take (i+1)).filter (fun t=>!Zb5 g t)).map (Zem):=Zhb (f:=fun t=>!Zb5 g t) (m:=Zem) hq hio (by simpa [Zb5] using hc7)
   refine Zc hS (qM rfl rfl (qe 3 106 r1 r1 (qf (oP (ZdG (Go.Gm.nth o.txs i) (by have:=ho.at hio;omega)) Tryz.func52 (Args.one (.pagg .t))) r1 qz (qf (oB [(0,_),(1,.tmp 95)] [.int .i64 0,.int .i64 0,.bool false,.slice none 0 0,.int .i64 0,.slice none 0 0,.int .i64 0,.int .i64 0,.int .i64 0,.int .i64 0] [(0,1),(1,3),(4,2),(6,1),(7,1),(8,1),(9,1)] (.one rfl qi one_int (by kernel_rfl) (.agg rfl (.conv .t .agg) (by kernel_rfl) (by kernel_rfl) .nil))) r1 qz (qf (Zh (sz:=10) (zs:=[.int .i64 0,.int .i64 0,.bool false,.slice none 0 0,.int .i64 0,.slice none 0 0,.int .i64 0,.int .i64 0,.int .i64 0,.int .i64 0]) (r:=[(0,.tmp 96)]) (l:=[_,_,_,_,_,_,_,_,_,_]) Tryz.underlying26 (by kernel_rfl) (by kernel_rfl) (by kernel_rfl) (by kernel_rfl) rfl rfl (.agg rfl .t (by kernel_rfl) (by kernel_rfl) .nil) rfl) r1 qz (qf (o_append (sz:=10) (bs:=112) 50 (.mk' Tryz.underlying26 (by kernel_rfl) (by kernel_rfl)) (by intro x;rfl) .is (.sl (.conv .t (entArr (l:=[.int .i64 1,.int .i64 (bareT (Go.Gm.nth o.txs i)).id,.bool (bareT (Go.Gm.nth o.txs i)).done,.sl rOp (bareT (Go.Gm.nth o.txs i)).ops,.int .i64 0,.is (.slice none 0 0),.int .i64 0,.int .i64 0,.int .i64 0,.int .i64 0]) (R:=rCmd) (l':=[Zem (Go.Gm.nth o.txs i)]) rfl ⟨PVLe.refl,PVLe.refl,PVLe.refl,PVLe.refl,PVLe.refl,PVLe.nilSl,PVLe.refl,PVLe.refl,PVLe.refl,PVLe.refl,trivial⟩))) (by simp only [List.length_append,List.length_cons,List.length_nil];omega) (by decide)) ⟨rfl,rfl,trivial⟩ ⟨rfl,trivial⟩ (qN rfl rfl qZ))))))) hB [84,83,82,5,4,3,2] [106,102,101,50,0] (fun _=>rfl) (fun _=>rfl) fun τ a w F hS=>?_
   try dsimp only [RS.sub,SF.sub,CF.sub,csub,Anc.sub,List.map,Zf,xL,xM,Nat.reduceAdd,xD,xE,xT,xU,xC,xN,zCF,ldSF,Zj,rTx,Zs,Zv,rInt,rOp,rCmd,ZC,Zaj,ZH,Zu] at hS
   generalize τ 98=v98 at hS
   refine Zi (Za ?_)
   refine Zb hS (qp r1 (qM rfl rfl qZ)) hB [84,83,82,5,4,3,2] [106,102,101,50,0] rfl rfl fun a w F hS=>Za ?_
   replace hS:=hS.ent (i:=84) (s':=.pv (.int .i64 ((i+1:Nat):Int))) rfl (.int (Ze (by omega)))
   obtain ⟨F,hS⟩:=hS.nm [83,82,4,3,2,5,84] [102,101,0,50] rfl rfl
   exact ⟨((i+1),_,_),F,⟨by omega,k9⟩,hS,by omega⟩
  have k9:out=(fA g o++fB g o++fC g o)++((o.txs.take (i+1)).filter (fun t=>!Zb5 g t)).map (Zem):=Zko (f:=fun t=>!Zb5 g t) (m:=Zem) hq hio (by simpa [Zb5] using hc7)
  refine wp_skip (Zi (Za ?_))
  refine Zb hS (qp r1 (qM rfl rfl qZ)) hB [84,83,82,5,4,3,2] [106,102,101,50,0] rfl rfl fun a w F hS=>Za ?_
  replace hS:=hS.ent (i:=84) (s':=.pv (.int .i64 ((i+1:Nat):Int))) rfl (.int (Ze (by omega)))
  obtain ⟨F,hS⟩:=hS.nm [83,82,4,3,2,5,84] [102,101,0,50] rfl rfl
  exact ⟨((i+1),_,_),F,⟨by omega,k9⟩,hS,by omega⟩
 have hil:i=o.txs.length:=by simp at hc6;omega
 have hqe:out=(fA g o++fB g o++fC g o++fD g o):=by rw [hq,hil,List.take_length];rfl
 subst hqe
 refine wp_exit (Zk (Zk (Zq (Za (wp_seq (wp_seq ?_))))))
 refine Zb hS (qg 0 102 r1 r1 (qa 102 r1 r1 (qu Tryz.underlying22 r1 (qJ qZ)))) hB [103,102,101,5,4,2] [102,101,50,0] rfl rfl fun a w F hS=>Za (wp_block ?_)
 refine Zl (σ:=(Nat)×(Value)×(List CmdD)) [2,4,101,102] [0,101,102] (fun s=>[(103,.pv (.int .i64 (s.1:Int))),(5,.pv (.is s.2.1))]) (fun s=>[(50,.ob (.val s.2.1) (Zw 45 10 rCmd s.2.2))]) (fun s=>s.1≤o.txs.length∧(s.2.2=(fA g o++fB g o++fC g o++fD g o)++((o.txs.take s.1).filter (fun t=>!Za1 g t && Za5 t)).map (ZbV))) (fun s=>o.txs.length - s.1) ((0),(v),((fA g o++fB g o++fC g o++fD g o))) hS ⟨rfl,rfl,rfl,rfl,rfl,rfl,trivial⟩ ⟨rfl,rfl,rfl,rfl,trivial⟩ ⟨Nat.zero_le _,(by simp)⟩ ?_
 clear hS;intro s a w F hC hS
 obtain ⟨i,v,out⟩:=s
 try dsimp only at hC
 obtain ⟨F,hS⟩:=hS.nm [103,102,101,5,4,2] [102,101,50,0] rfl rfl
 try dsimp only at hS
 obtain ⟨hi,hq⟩:=hC
 have hol:=Zhi hq
 try simp only [List.length_append,List.length_nil] at hol
 refine wp_seq ?_
 refine Zb hS (qL r2) hB [104,103,102,101,5,4,2] [102,101,50,0] rfl rfl fun a w F hS=>Za (wp_seq ?_)
 refine Zd hS rfl (fun hc8=>?_) (fun hc8=>?_)
 ·skip
  have hil:i<o.txs.length:=by simp at hc8;omega
  have hio:=hil
  refine wp_skip (Za (wp_seq (wp_block (wp_seq ?_))))
  refine Zc hS (qy 3 Tryz.underlying22 r2 (qf (oR true 3 .t) r1 qz (qf (oH [.int .i64 0,.bool false,.slice none 0 0] 107) trivial qz (qS 3 107 r2 r1 qZ)))) hB [103,102,101,15,5,4,2] [107,102,101,50,0] (fun _=>rfl) (fun _=>rfl) fun τ a w F hS=>?_
  try dsimp only [RS.sub,SF.sub,CF.sub,csub,Anc.sub,List.map,Zf,xL,xM,Nat.reduceAdd,xD,xE,xT,xU,xC,xN,zCF,ldSF,Zj,rTx,Zs,Zv,rInt,rOp,rCmd,ZC,Zaj,ZH,Zu] at hS
  generalize τ 15=v15 at hS
  try simp only [Int.toNat_natCast] at hS
  refine Za (wp_seq ?_)
  refine Zb hS (qe 2 101 r1 r1 (qe 3 107 r1 r1 (qf (oP (Zf9 g (Go.Gm.nth o.txs i) hs) Tryz.func91 (Args.two (.pagg .t) (.pagg .t))) r2 qz (qf (o_not .t) r1 qz (qM rfl rfl (qk rfl (fun h=>oL true 3 107 .is) r2 r1 (qk rfl (fun h=>oP (Zhe (Go.Gm.nth o.txs i) (by have:=ho.at hio;omega)) Tryz.func92 (Args.one (.pagg (.w h)))) r2 qz (qf (Zy .t .t) r2 qz qZ)))))))) hB [114,103,102,101,15,5,4,2] [107,102,101,50,0] rfl rfl fun a w F hS=>Za ?_
  refine Zd hS rfl (fun hc9=>?_) (fun hc9=>?_)
  ·skip
   have k9:out ++ [(ZbV) (Go.Gm.nth o.txs i)] = (fA g o++fB g o++fC g o++fD g o)++((o.txs.take (i+1)).filter (fun t=>!Za1 g t && Za5 t)).map (ZbV):=Zhb (f:=fun t=>!Za1 g t && Za5 t) (m:=ZbV) hq hio (by simpa [Zb5] using hc9)
   refine Zc hS (qM rfl rfl (qe 3 107 r1 r1 (qf (oB [(0,_),(1,.tmp 116)] [.int .i64 0,.int .i64 0,.bool false,.slice none 0 0,.int .i64 0,.slice none 0 0,.int .i64 0,.int .i64 0,.int .i64 0,.int .i64 0] [(0,1),(1,3),(4,2),(6,1),(7,1),(8,1),(9,1)] (.one rfl qi one_int (by kernel_rfl) (.agg rfl .t (by kernel_rfl) (by kernel_rfl) .nil))) r1 qz (qf (Zh (sz:=10) (zs:=[.int .i64 0,.int .i64 0,.bool false,.slice none 0 0,.int .i64 0,.slice none 0 0,.int .i64 0,.int .i64 0,.int .i64 0,.int .i64 0]) (r:=[(0,.tmp 117)]) (l:=[_,_,_,_,_,_,_,_,_,_]) Tryz.underlying26 (by kernel_rfl) (by kernel_rfl) (by kernel_rfl) (by kernel_rfl) rfl rfl (.agg rfl .t (by kernel_rfl) (by kernel_rfl) .nil) rfl) r1 qz (qf (o_append (sz:=10) (bs:=112) 50 (.mk' Tryz.underlying26 (by kernel_rfl) (by kernel_rfl)) (by intro x;rfl) .is (.sl (.conv .t (entArr (l:=[.int .i64 2,.int .i64 (Go.Gm.nth o.txs i).id,.bool (Go.Gm.nth o.txs i).done,.sl rOp (Go.Gm.nth o.txs i).ops,.int .i64 0,.is (.slice none 0 0),.int .i64 0,.int .i64 0,.int .i64 0,.int .i64 0]) (R:=rCmd) (l':=[ZbV (Go.Gm.nth o.txs i)]) rfl ⟨PVLe.refl,PVLe.refl,PVLe.refl,PVLe.refl,PVLe.refl,PVLe.nilSl,PVLe.refl,PVLe.refl,PVLe.refl,PVLe.refl,trivial⟩))) (by simp only [List.length_append,List.length_cons,List.length_nil];omega) (by decide)) ⟨rfl,rfl,trivial⟩ ⟨rfl,trivial⟩ (qN rfl rfl qZ)))))) hB [103,102,101,5,4,2] [107,102,101,50,0] (fun _=>rfl) (fun _=>rfl) fun τ a w F hS=>?_
   try dsimp only [RS.sub,SF.sub,CF.sub,csub,Anc.sub,List.map,Zf,xL,xM,Nat.reduceAdd,xD,xE,xT,xU,xC,xN,zCF,ldSF,Zj,rTx,Zs,Zv,rInt,rOp,rCmd,ZC,Zaj,ZH,Zu] at hS
   generalize τ 119=v119 at hS
   refine Zi (Za ?_)
   refine Zb hS (qp r1 (qM rfl rfl qZ)) hB [103,102,101,5,4,2] [107,102,101,50,0] rfl rfl fun a w F hS=>Za ?_
   replace hS:=hS.ent (i:=103) (s':=.pv (.int .i64 ((i+1:Nat):Int))) rfl (.int (Ze (by omega)))
   obtain ⟨F,hS⟩:=hS.nm [102,101,4,2,5,103] [102,101,0,50] rfl rfl
   exact ⟨((i+1),_,_),F,⟨by omega,k9⟩,hS,by omega⟩
  have k9:out=(fA g o++fB g o++fC g o++fD g o)++((o.txs.take (i+1)).filter (fun t=>!Za1 g t && Za5 t)).map (ZbV):=Zko (f:=fun t=>!Za1 g t && Za5 t) (m:=ZbV) hq hio (by simpa [Zb5] using hc9)
  refine wp_skip (Zi (Za ?_))
  refine Zb hS (qp r1 (qM rfl rfl qZ)) hB [103,102,101,5,4,2] [107,102,101,50,0] rfl rfl fun a w F hS=>Za ?_
  replace hS:=hS.ent (i:=103) (s':=.pv (.int .i64 ((i+1:Nat):Int))) rfl (.int (Ze (by omega)))
  obtain ⟨F,hS⟩:=hS.nm [102,101,4,2,5,103] [102,101,0,50] rfl rfl
  exact ⟨((i+1),_,_),F,⟨by omega,k9⟩,hS,by omega⟩
 have hil:i=o.txs.length:=by simp at hc8;omega
 have hg:ZI g o=out:=by rw [hq,hil,List.take_length];rfl
 refine wp_exit (Zk (Zk (Zq (Za (wp_seq ?_)))))
 refine Zb hS (qM rfl rfl (qN rfl rfl qZ)) hB [4] [102,101,50,0] rfl rfl fun a w F hS=>Za (wp_ret ?_)
 obtain ⟨F,hS⟩:=hS.rename 50 1 rfl rfl
 have hS:=hS.turn 1 rfl (r':=RS.hp (Zw 45 10 rCmd (ZI g o) v)) (fun _ _ _ _ h=>by rw [hg];exact h)
 refine Zat (h':=fun v=>Zw 45 10 rCmd (ZI g o) v) hG hS rfl (.tmp rfl .nil) (.one .one) rfl
theorem ZfH (g o:Zn) (n:Nat) (hn:n≤27) (hg0:ZcJ n g) (ho0:ZcJ n o):FnP Tryz.prog 11 [.agg (Zj g),.agg (Zj o)] (.tup [.sl rCmd (Zdy g o).1,.int .i64 (Zdy g o).2]):=by
 refine FnP.mk Tryz.func11 rfl Tryz.ntmps11 rfl ?_
 intro B a w F hB hfr hS
 have hst:=hg0.1.1
 have hso:=ho0.1.2
 have hos:=ho0.1.2.1
 have hsg:=hg0.1.1
 obtain ⟨hfn,hfl,hpl⟩:=hg0.first ho0 (by omega)
 have hfc:(ZI g o).length≤166:=by omega
 refine wp_seq ?_
 refine Zc hS (qx 101 r1 (qx 102 r1 (qC (qI qZ)))) hB [5,4,3,2] [102,101,0] (fun _=>rfl) (fun _=>rfl) fun τ a w F hS=>?_
 try dsimp only [RS.sub,SF.sub,CF.sub,csub,Anc.sub,List.map,zCF,Zj,rTx,Zs,Zv,rInt,rOp,rCmd,ZC,Zaj,ZH,Zu,Zbr] at hS
 generalize τ 2=v2 at hS
 generalize τ 3=v3 at hS
 refine Za (wp_seq (wp_seq ?_))
 refine Zb hS (qe 2 101 r1 r1 (qf (oP (ZaN g hg0.1) Tryz.func35 (Args.one (.pagg .t))) r1 qz (qf (o_not .t) r1 qz (qM rfl rfl (qk rfl (fun h=>oL true 2 102 .is) r2 r1 (qk rfl (fun h=>oP (ZaN o ho0.1) Tryz.func35 (Args.one (.pagg (.w h)))) r2 qz (qk rfl (fun h=>o_not (.w h)) r2 qz (qf (ZaI .t .t) r2 qz qZ)))))))) hB [23,5,4,3,2] [102,101,0] rfl rfl fun a w F hS=>Za ?_
 refine Zd hS rfl (fun hc0=>?_) (fun hc0=>?_)
 ·skip
  have hr:¬ Zx g∨¬ Zx o:=by have h9:=hc0;simp at h9;first | exact h9 | exact Classical.or_iff_not_imp_left.2 (fun k=>h9 (Classical.not_not.1 k))
  refine wp_seq ?_
  refine Zb hS (qC (qI qZ)) hB [5,4,3,2] [102,101,0] rfl rfl fun a w F hS=>Za (wp_ret (Zg ?_))
  refine ZA hfr hS rfl (.tmp rfl (.tmp rfl .nil)) (.two (.trans .nilSl (.sl (by first | rw [Za2 hr] | (rw [Za4 hr,hq,hil,List.take_length])))) (.int (by first | rw [Za2 hr] | rw [Za4 hr])))
 have hr:¬ (¬ Zx g∨¬ Zx o):=by have h9:=hc0;simp at h9;first | exact h9 | simpa using h9
 refine wp_skip (Za (wp_seq ?_))
 replace hS:=hS.fresh 103 rfl
 refine Zc hS (qe 2 101 r1 r1 (qe 2 102 r1 r1 (qf (ZaM 103 (Zm4 g o hst ho0.1.1) Tryz.func36 rfl (by kernel_rfl) (Args.two (.pagg .t) (.pagg .t)) ZaF) r2 r1 (qN rfl rfl qZ)))) hB [6,5,4,3,2] [103,102,101,0] (fun _=>rfl) (fun _=>rfl) fun τ a w F hS=>?_
 try dsimp only [RS.sub,SF.sub,CF.sub,csub,Anc.sub,List.map,xD,xE,xT,xU,ldSF,Zj,rTx,Zs,Zv,rInt,rOp,rCmd,ZC,Zaj,ZH,Zu,Zbr] at hS
 generalize τ 26=v26 at hS
 refine Za (wp_seq ?_)
 refine Zc hS (qe 2 101 r1 r1 (qM rfl rfl (qf (Zcc 103 (Zj2 v26 g (ZI g o) n hg0 hfn hfl) Tryz.func13 rfl (by kernel_rfl) (Args.two (.pagg .t) .t)) r2 r1 (qM rfl rfl (qf (o_extract .t rfl) r1 qz (qf (o_extract .t rfl) r1 qz (qf (o_extract .t rfl) r1 qz (qf (oH [.slice none 0 0,.slice none 0 0] 104) trivial qz (qf (oA 2 104 .same (.conv .t .agg)) r2 r1 (qN rfl rfl (qN rfl rfl qZ))))))))))) hB [7,6,5,4,3] [104,103,102,101,0] (fun _=>rfl) (fun _=>rfl) fun τ a w F hS=>?_
 try dsimp only [RS.sub,SF.sub,CF.sub,csub,Anc.sub,List.map,Zf,xL,xM,Nat.reduceAdd,xD,xE,xT,xU,xC,xN,zCF,ldSF,Zj,rTx,Zs,Zv,rInt,rOp,rCmd,ZC,Zaj,ZH,Zu,Zbr] at hS
 generalize τ 7=v7 at hS
 refine Za (wp_seq (wp_seq ?_))
 refine Zb hS (qg 1 102 r1 r1 (qa 102 r1 r1 (qu Tryz.underlying23 r1 (qJ qZ)))) hB [37,36,35,7,6,5,4] [104,103,102,101,0] rfl rfl fun a w F hS=>Za (wp_block ?_)
 refine Zl (σ:=(Nat)×(Value)×(List CmdD)) [4,5,7,35,36] [0,101,102,104] (fun s=>[(37,.pv (.int .i64 (s.1:Int))),(6,.pv (.is s.2.1))]) (fun s=>[(103,.ob (.val s.2.1) (Zw 45 10 rCmd s.2.2))]) (fun s=>s.1≤o.orders.length∧(s.2.2=ZI g o++(o.orders.take s.1).flatMap (mvC (ZQ g (ZI g o) 0).1))) (fun s=>o.orders.length - s.1) ((0),(v26),((ZI g o))) hS ⟨rfl,rfl,rfl,rfl,rfl,rfl,rfl,trivial⟩ ⟨rfl,rfl,rfl,rfl,rfl,trivial⟩ ⟨Nat.zero_le _,(by simp)⟩ ?_
 clear hS;intro s a w F hC hS
 obtain ⟨i,v,out⟩:=s
 try dsimp only at hC
 obtain ⟨F,hS⟩:=hS.nm [37,36,35,7,6,5,4] [104,103,102,101,0] rfl rfl
 try dsimp only at hS
 obtain ⟨hi,hq⟩:=hC
 have hqo:=hq
 have hol:out.length≤200+1000*i:=by
   rw [hq,List.length_append]
   have h1:=Zkw (h:=(ZQ g (ZI g o) 0).1) hso i
   omega
 refine wp_seq ?_
 refine Zb hS (qL r2) hB [38,37,36,35,7,6,5,4] [104,103,102,101,0] rfl rfl fun a w F hS=>Za (wp_seq ?_)
 refine Zd hS rfl (fun hc1=>?_) (fun hc1=>?_)
 ·skip
  have hil:i<o.orders.length:=by simp at hc1;omega
  have hio:=hil
  have hoo:=hso.at hio
  have hsh:=Zc8 (getO (ZQ g (ZI g o) 0).1.orders (Go.Gm.nth o.orders i).key) (Go.Gm.nth o.orders i).txs
  refine wp_skip (Za (wp_seq (wp_block (wp_seq ?_))))
  refine Zc hS (qy 2 Tryz.underlying23 r2 (qf (oR true 2 .t) r1 qz (qf (oH [.int .i64 0,.slice none 0 0] 105) trivial qz (qS 2 105 r2 r1 qZ)))) hB [37,36,35,11,7,6,5,4] [105,104,103,102,101,0] (fun _=>rfl) (fun _=>rfl) fun τ a w F hS=>?_
  try dsimp only [RS.sub,SF.sub,CF.sub,csub,Anc.sub,List.map,Zf,xL,xM,Nat.reduceAdd,xD,xE,xT,xU,xC,xN,zCF,ldSF,Zj,rTx,Zs,Zv,rInt,rOp,rCmd,ZC,Zaj,ZH,Zu,Zbr] at hS
  generalize τ 11=v11 at hS
  try simp only [Int.toNat_natCast] at hS
  refine Za (wp_seq ?_)
  refine ZE hS (qe 2 104 r1 r1 (qg 0 105 r1 r1 (qa 105 r1 r1 (qf (oP (ZcK (ZQ g (ZI g o) 0).1 (Go.Gm.nth o.orders i).key) Tryz.func38 (Args.two (.pagg .t) .t)) r2 qz (qg 1 105 r1 r1 (qa 105 r1 r1 (qf (oP (ZkI (getO (ZQ g (ZI g o) 0).1.orders (Go.Gm.nth o.orders i).key) (Go.Gm.nth o.orders i).txs (Nat.le_trans (Zdl hpl.2 _) (by omega)) (by omega)) Tryz.func37 (Args.two .t .t)) r2 qz (qM rfl rfl (qf (o_extract .t rfl) r1 qz (qf (o_extract .t rfl) r1 qz (qN rfl rfl (qN rfl rfl qZ)))))))))))) hB [37,36,35,12,11,7,6,5,4] [105,104,103,102,101,0] rfl rfl fun a w F hS=>?_
  try dsimp only [List.map,xD,xE,xT,xU,ldSF,Zj,rTx,Zs,Zv,rInt,rOp,rCmd,ZC,Zaj,ZH,Zu,Zbr] at hS
  refine Za (wp_seq ?_)
  refine Zb hS (qM rfl rfl (qu Tryz.underlying65 r1 (qJ qZ))) hB [53,52,51,37,36,35,11,7,6,5,4] [105,104,103,102,101,0] rfl rfl fun a w F hS=>Za (wp_block ?_)
  refine Zl (σ:=(Nat)×(Value)×(List CmdD)) [4,5,7,11,35,36,37,51,52] [0,101,102,104,105] (fun s=>[(53,.pv (.int .i64 (s.1:Int))),(6,.pv (.is s.2.1))]) (fun s=>[(103,.ob (.val s.2.1) (Zw 45 10 rCmd s.2.2))]) (fun s=>s.1≤(Zae (getO (ZQ g (ZI g o) 0).1.orders (Go.Gm.nth o.orders i).key) (Go.Gm.nth o.orders i).txs).1.length∧(s.2.2=out++((Zae (getO (ZQ g (ZI g o) 0).1.orders (Go.Gm.nth o.orders i).key) (Go.Gm.nth o.orders i).txs).1.take s.1).map (Zn7 (Go.Gm.nth o.orders i).key))) (fun s=>(Zae (getO (ZQ g (ZI g o) 0).1.orders (Go.Gm.nth o.orders i).key) (Go.Gm.nth o.orders i).txs).1.length - s.1) ((0),(v),(out)) hS ⟨rfl,rfl,rfl,rfl,rfl,rfl,rfl,rfl,rfl,rfl,rfl,trivial⟩ ⟨rfl,rfl,rfl,rfl,rfl,rfl,trivial⟩ ⟨Nat.zero_le _,(by simp)⟩ ?_
  clear hS;intro s a w F hC hS
  obtain ⟨k,v,out2⟩:=s
  try dsimp only at hC
  obtain ⟨F,hS⟩:=hS.nm [53,52,51,37,36,35,11,7,6,5,4] [105,104,103,102,101,0] rfl rfl
  try dsimp only at hS
  obtain ⟨hi,hq⟩:=hC
  have hq2:=hq
  have hol2:out2.length≤out.length+k:=by rw [hq2,List.length_append,List.length_map,List.length_take];omega
  refine wp_seq ?_
  refine Zb hS (qL r2) hB [54,53,52,51,37,36,35,11,7,6,5,4] [105,104,103,102,101,0] rfl rfl fun a w F hS=>Za (wp_seq ?_)
  refine Zd hS rfl (fun hc2=>?_) (fun hc2=>?_)
  ·skip
   have hil:k<(Zae (getO (ZQ g (ZI g o) 0).1.orders (Go.Gm.nth o.orders i).key) (Go.Gm.nth o.orders i).txs).1.length:=by simp at hc2;omega
   have hko:=hil
   refine wp_skip (Za (wp_seq (wp_block (wp_seq ?_))))
   refine Zc hS (qy 2 Tryz.underlying65 r2 (qf (oR true 2 .t) r1 qz (qf (oH [.int .i64 0,.int .i64 0] 106) trivial qz (qS 2 106 r2 r1 qZ)))) hB [53,52,51,37,36,35,15,11,7,6,5,4] [106,105,104,103,102,101,0] (fun _=>rfl) (fun _=>rfl) fun τ a w F hS=>?_
   try dsimp only [RS.sub,SF.sub,CF.sub,csub,Anc.sub,List.map,Zf,xL,xM,Nat.reduceAdd,xD,xE,xT,xU,xC,xN,zCF,ldSF,Zj,rTx,Zs,Zv,rInt,rOp,rCmd,ZC,Zaj,ZH,Zu,Zbr] at hS
   generalize τ 15=v15 at hS
   try simp only [Int.toNat_natCast] at hS
   refine Za ?_
   refine Zc hS (qM rfl rfl (qg 0 105 r1 r1 (qa 105 r1 r1 (qg 0 106 r1 r1 (qa 106 r1 r1 (qg 1 106 r1 r1 (qa 106 r1 r1 (qf (oB [(0,_),(3,.tmp 59),(4,.tmp 61),(5,.tmp 63)] [.int .i64 0,.int .i64 0,.bool false,.slice none 0 0,.int .i64 0,.slice none 0 0,.int .i64 0,.int .i64 0,.int .i64 0,.int .i64 0] [(0,1),(1,3),(4,2),(6,1),(7,1),(8,1),(9,1)] (.one rfl qi one_int (by kernel_rfl) (.one rfl .t one_int (by kernel_rfl) (.one rfl .t one_int (by kernel_rfl) (.one rfl .t one_int (by kernel_rfl) .nil))))) r3 qz (qf (Zh (sz:=10) (zs:=[.int .i64 0,.int .i64 0,.bool false,.slice none 0 0,.int .i64 0,.slice none 0 0,.int .i64 0,.int .i64 0,.int .i64 0,.int .i64 0]) (r:=[(0,.tmp 64)]) (l:=[_,_,_,_,_,_,_,_,_,_]) Tryz.underlying26 (by kernel_rfl) (by kernel_rfl) (by kernel_rfl) (by kernel_rfl) rfl rfl (.agg rfl .t (by kernel_rfl) (by kernel_rfl) .nil) rfl) r1 qz (qf (o_append (sz:=10) (bs:=112) 103 (.mk' Tryz.underlying26 (by kernel_rfl) (by kernel_rfl)) (by intro x;rfl) .is (.sl (.conv .t (entArr (l:=[.int .i64 5,.int .i64 0,.bool false,.is (.slice none 0 0),.int .i64 0,.is (.slice none 0 0),.int .i64 (Go.Gm.nth o.orders i).key,.int .i64 (Go.Gm.nth (Zae (getO (ZQ g (ZI g o) 0).1.orders (Go.Gm.nth o.orders i).key) (Go.Gm.nth o.orders i).txs).1 k).key,.int .i64 (Go.Gm.nth (Zae (getO (ZQ g (ZI g o) 0).1.orders (Go.Gm.nth o.orders i).key) (Go.Gm.nth o.orders i).txs).1 k).val,.int .i64 0]) (R:=rCmd) (l':=[Zn7 (Go.Gm.nth o.orders i).key (Go.Gm.nth (Zae (getO (ZQ g (ZI g o) 0).1.orders (Go.Gm.nth o.orders i).key) (Go.Gm.nth o.orders i).txs).1 k)]) rfl ⟨PVLe.refl,PVLe.refl,PVLe.refl,PVLe.nilSl,PVLe.refl,PVLe.nilSl,PVLe.refl,PVLe.refl,PVLe.refl,PVLe.refl,trivial⟩))) (by simp only [List.length_append,List.length_cons,List.length_nil];omega) (by decide)) ⟨rfl,rfl,trivial⟩ ⟨rfl,trivial⟩ (qN rfl rfl qZ))))))))))) hB [53,52,51,37,36,35,11,7,6,5,4] [106,105,104,103,102,101,0] (fun _=>rfl) (fun _=>rfl) fun τ a w F hS=>?_
   try dsimp only [RS.sub,SF.sub,CF.sub,csub,Anc.sub,List.map,Zf,xL,xM,Nat.reduceAdd,xD,xE,xT,xU,xC,xN,zCF,ldSF,Zj,rTx,Zs,Zv,rInt,rOp,rCmd,ZC,Zaj,ZH,Zu,Zbr] at hS
   generalize τ 66=v66 at hS
   refine Zi (Za ?_)
   refine Zb hS (qp r1 (qM rfl rfl qZ)) hB [53,52,51,37,36,35,11,7,6,5,4] [106,105,104,103,102,101,0] rfl rfl fun a w F hS=>Za ?_
   replace hS:=hS.ent (i:=53) (s':=.pv (.int .i64 ((k+1:Nat):Int))) rfl (.int (Ze (by omega)))
   obtain ⟨F,hS⟩:=hS.nm [52,51,37,36,35,11,7,5,4,6,53] [105,104,102,101,0,103] rfl rfl
   exact ⟨((k+1),_,_),F,⟨by omega,(by rw [Zdd hko,hq2,List.append_assoc])⟩,hS,by omega⟩
  have hil:k=(Zae (getO (ZQ g (ZI g o) 0).1.orders (Go.Gm.nth o.orders i).key) (Go.Gm.nth o.orders i).txs).1.length:=by simp at hc2;omega
  have hil2:=hil
  refine wp_exit (Zk (Zk (Zq (Zi (Za ?_)))))
  refine Zb hS (qp r1 (qM rfl rfl qZ)) hB [37,36,35,7,6,5,4] [105,104,103,102,101,0] rfl rfl fun a w F hS=>Za ?_
  replace hS:=hS.ent (i:=37) (s':=.pv (.int .i64 ((i+1:Nat):Int))) rfl (.int (Ze (by omega)))
  obtain ⟨F,hS⟩:=hS.nm [36,35,7,5,4,6,37] [104,102,101,0,103] rfl rfl
  exact ⟨((i+1),_,(out2)),F,⟨by omega,(by rw [hq2,hil2,List.take_length];exact ZiF hqo hio)⟩,hS,by omega⟩
 have hil:i=o.orders.length:=by simp at hc1;omega
 refine wp_exit (Zk (Zk (Zq (Za (wp_seq ?_)))))
 refine Zb hS (qM rfl rfl (qN rfl rfl (qI qZ))) hB [5,4] [104,103,102,101,0] rfl rfl fun a w F hS=>Za (wp_ret ?_)
 obtain ⟨F,hS⟩:=hS.give 103 4 rfl rfl
 refine ZA hfr hS rfl (.tmp rfl (.tmp rfl .nil)) (.two (.sl (by first | rw [Za2 hr] | (rw [Za4 hr,hq,hil,List.take_length]))) (.int (by first | rw [Za2 hr] | rw [Za4 hr])))
theorem Zhd (g o:Zn) (l:List CmdD):FnP Tryz.prog 3 [.agg (Zj g),.agg (Zj o),.sl rCmd l] (.bool true):=by
 refine FnP.mk Tryz.func3 rfl Tryz.ntmps3 rfl ?_
 intro B a w F hB hfr hS
 refine wp_seq ?_
 refine Zc hS (qx 101 r1 (qx 102 r1 qB)) hB [6,4,3,2] [102,101,0] (fun _=>rfl) (fun _=>rfl) fun τ a w F hS=>?_
 try dsimp only [RS.sub,SF.sub,CF.sub,csub,Anc.sub,List.map,zCF,Zj,rTx,Zs,Zv,rInt,rOp,rCmd,ZC,Zaj,ZH,Zu] at hS
 generalize τ 3=v3 at hS
 generalize τ 4=v4 at hS
 refine Za (wp_seq (wp_seq ?_))
 refine Zb hS (qe 2 101 r1 r1 (qf (oP (Zjh g) Tryz.func7 (Args.one (.pagg .t))) r1 qz (qf (o_not .t) r1 qz (qM rfl rfl (qk rfl (fun h=>oL true 2 102 .is) r2 r1 (qk rfl (fun h=>oP (Zjh o) Tryz.func7 (Args.one (.pagg (.w h)))) r2 qz (qk rfl (fun h=>o_not (.w h)) r2 qz (qf (ZaI .t .t) r2 qz (qM rfl rfl (qm rfl rfl rfl rfl (qk rfl (fun h=>oP (ZmD l) Tryz.func8 (Args.one (.w h))) r2 qz (qk rfl (fun h=>o_not (.w h)) r2 qz (qf (ZaI .t .t) r2 qz qZ))))))))))))) hB [29,6,4,3,2] [102,101,0] rfl rfl fun a w F hS=>Za ?_
 refine Zd hS rfl (fun hc0=>?_) (fun hc0=>?_)
 ·skip
  refine wp_seq ?_
  refine Zb hS (qf (oP (Zhn) Tryz.func9 Args.nil) trivial qz (qN rfl rfl qZ)) hB [6,4,3,2] [102,101,0] rfl rfl fun a w F hS=>Za (wp_ret (Zg ?_))
  refine Zr hfr hS rfl rfl rfl (.bool (by first | rfl | simp))
 have hcx:=hc0
 simp at hcx
 obtain ⟨⟨hcg,hco⟩,hl⟩:=hcx
 have hpg:ZcJ 12 g:=ZcJ.light (Zbp.small hcg) hcg.1 hcg.2.2.1
 have hpo:ZcJ 12 o:=ZcJ.light (Zbp.small hco) hco.1 hco.2.2.1
 have hll:=hl.1
 refine wp_skip (Za (wp_seq ?_))
 refine Zb hS (qe 2 101 r1 r1 (qe 2 102 r1 r1 (qf (oP (ZbU g o 12 (by omega) hpg hpo) Tryz.func10 (Args.two (.pagg .t) (.pagg .t))) r2 qz (qM rfl rfl (qf (o_extract .t rfl) r1 qz (qf (o_extract .t rfl) r1 qz (qN rfl rfl (qN rfl rfl qZ)))))))) hB [8,7,6,4,3,2] [102,101,0] rfl rfl fun a w F hS=>Za (wp_seq ?_)
 refine Zb hS (qe 2 101 r1 r1 (qe 2 102 r1 r1 (qf (oP (ZfH g o 12 (by omega) hpg hpo) Tryz.func11 (Args.two (.pagg .t) (.pagg .t))) r2 qz (qM rfl rfl (qf (o_extract .t rfl) r1 qz (qf (o_extract .t rfl) r1 qz (qN rfl rfl (qN rfl rfl qZ)))))))) hB [10,9,8,7,6,3,2] [102,101,0] rfl rfl fun a w F hS=>Za (wp_seq ?_)
 refine Zc hS (qe 2 101 r1 r1 (qM rfl rfl (qf (oP (ZhY g l 12 hpg (by omega) hl.2) Tryz.func12 (Args.two (.pagg .t) .t)) r2 qz (qM rfl rfl (qf (o_extract .t rfl) r1 qz (qf (o_extract .t rfl) r1 qz (qf (o_extract .t rfl) r1 qz (qf (oH [.slice none 0 0,.slice none 0 0] 103) trivial qz (qf (oA 2 103 .same (.conv .t .agg)) r2 r1 (qN rfl rfl (qN rfl rfl qZ))))))))))) hB [13,12,11,10,9,8,7,6,3,2] [103,102,101,0] (fun _=>rfl) (fun _=>rfl) fun τ a w F hS=>?_
 try dsimp only [RS.sub,SF.sub,CF.sub,csub,Anc.sub,List.map,Zf,xL,xM,Nat.reduceAdd,xD,xE,xT,xU,xC,xN,zCF,ldSF,Zj,rTx,Zs,Zv,rInt,rOp,rCmd,ZC,Zaj,ZH,Zu] at hS
 generalize τ 11=v11 at hS
 refine Za (wp_seq ?_)
 refine Zc hS (qe 2 101 r1 r1 (qM rfl rfl (qf (oP (Zkk g l 12 hpg (by omega) hl.2) Tryz.func13 (Args.two (.pagg .t) .t)) r2 qz (qM rfl rfl (qf (o_extract .t rfl) r1 qz (qf (o_extract .t rfl) r1 qz (qf (o_extract .t rfl) r1 qz (qf (oH [.slice none 0 0,.slice none 0 0] 104) trivial qz (qf (oA 2 104 .same (.conv .t .agg)) r2 r1 (qN rfl rfl (qN rfl rfl qZ))))))))))) hB [16,15,14,13,12,11,10,9,8,7,6] [104,103,102,101,0] (fun _=>rfl) (fun _=>rfl) fun τ a w F hS=>?_
 try dsimp only [RS.sub,SF.sub,CF.sub,csub,Anc.sub,List.map,Zf,xL,xM,Nat.reduceAdd,xD,xE,xT,xU,xC,xN,zCF,ldSF,Zj,rTx,Zs,Zv,rInt,rOp,rCmd,ZC,Zaj,ZH,Zu] at hS
 generalize τ 14=v14 at hS
 refine Za (wp_seq ?_)
 refine Zb hS (qM rfl rfl (qM rfl rfl (qf (o_eql .t .t) r2 qz (qM rfl rfl (qm rfl rfl rfl rfl (qm rfl rfl rfl rfl (qk rfl (fun h=>oP (Zmn _ _) Tryz.func14 (Args.two (.w h) (.w h))) r3 qz (qf (Zy .t .t) r2 qz (qM rfl rfl (qm rfl rfl rfl rfl (qm rfl rfl rfl rfl (qk rfl (fun h=>o_eql (.w h) (.w h)) r3 qz (qf (Zy .t .t) r2 qz (qM rfl rfl (qm rfl rfl rfl rfl (qm rfl rfl rfl rfl (qk rfl (fun h=>o_eql (.w h) (.w h)) r3 qz (qf (Zy .t .t) r2 qz (qM rfl rfl (qk rfl (fun h=>oL true 2 103 .is) r2 r1 (qk rfl (fun h=>oL true 2 104 .is) r2 r1 (qk rfl (fun h=>oP (Zf2 _ _) Tryz.func15 (Args.two (.pagg (.w h)) (.pagg (.w h)))) r3 qz (qf (Zy .t .t) r2 qz (qM rfl rfl (qk rfl (fun h=>oP (Zhn) Tryz.func9 Args.nil) r1 qz (qf (Zy .t .t) r2 qz (qN rfl rfl qZ))))))))))))))))))))))))))) hB [6] [104,103,102,101,0] rfl rfl fun a w F hS=>Za (wp_ret ?_)
 refine Zr hfr hS rfl rfl rfl (.bool (by first | rfl | simp))
end Go.Proofs.YtjhapicamnijnaaGreat
