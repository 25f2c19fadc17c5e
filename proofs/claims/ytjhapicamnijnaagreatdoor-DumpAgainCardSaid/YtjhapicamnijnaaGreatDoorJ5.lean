/- Texts put together. No condition beyond those that each theorem says. -/
import Derived.Test.YtjhapicamnijnaaGreatDoorJ4
import Derived.Test.YtjhapicamnijnaaGreatDoorLibP
import Derived.Test.YtjhapicamnijnaaGreatDoorJ0
import Derived.Test.YtjhapicamnijnaaGreatDoorJ3
namespace Go.Proofs.YtjhapicamnijnaaGreatDoor
open Go Go.Gm
set_option linter.unusedVariables false
set_option linter.unusedSimpArgs false
set_option maxHeartbeats 4000000
set_option maxRecDepth 8000
theorem ZnJ (g:HistD) (t:TxD) (hs:Za0 g) (ht:t.ops.length≤1000):FnP Tryz.prog 51 [.agg (Zo g),.agg (rTx t)] (.tup [.agg (Zo (Zam g t).1),.int .i64 (Zam g t).2]):=by
 refine FnP.mk Tryz.func51 rfl Tryz.ntmps51 rfl ?_
 intro B a w F hB hfr hS
 have hsl:=hs.1.1
 refine wp_seq ?_
 refine Zc hS (qx 101 r1 (qx 102 r1 (qf (oH [.slice none 0 0,.slice none 0 0] 103) trivial qz (qI qZ)))) hB [5,4,3,2] [103,102,101,0] (fun _=>rfl) (fun _=>rfl) fun τ a w F hS=>?_
 try dsimp only [RS.sub,SF.sub,CF.sub,csub,Anc.sub,List.map,zCF,Zo,rTx,Zz,ZQ,rInt,rOp] at hS
 generalize τ 2=v2 at hS
 generalize τ 3=v3 at hS
 generalize τ 4=v4 at hS
 refine Zb (wp_seq ?_)
 refine Za hS (qe 2 101 r1 r1 (qe 3 102 r1 r1 (qf (oP (Zr7 g t 4 false hs ht) Tryz.func92 (Args.four (.pagg .t) (.pagg .t) qi .cb)) r2 qz (qM rfl rfl (qf (o_extract .t rfl) r1 qz (qf (o_extract .t rfl) r1 qz (qN rfl rfl (qN rfl rfl qZ)))))))) hB [7,6,5,4,3,2] [103,102,101,0] rfl rfl fun a w F hS=>Zb (wp_seq (wp_block (wp_seq ?_)))
 refine Za hS (qM rfl rfl (qf (o_neq .t qi) r1 qz (qN rfl rfl qZ))) hB [15,7,6,5,4,3,2] [103,102,101,0] rfl rfl fun a w F hS=>Zb ?_
 refine Zd hS rfl (fun hc0=>?_) (fun hc0=>?_)
 ·skip
  have hm:(mayH g t 4 false).2≠0:=by simpa using hc0
  have hg:Zam g t=(zeroH,(mayH g t 4 false).2):=by unfold Zam;rw [if_pos hm]
  refine wp_seq ?_
  refine Za hS (qf (oB [] [.slice none 0 0,.slice none 0 0] [(0,1),(1,1)] .nil) trivial qz (qM rfl rfl (qs 2 103 r2 r1 (qN rfl rfl qZ)))) hB [6,5,4,3,2] [103,102,101,0] rfl rfl fun a w F hS=>Zb (wp_ret (Zf (Ze ?_)))
  refine Zr hfr hS rfl (.cl 103 true 2 rfl rfl (.tmp rfl .nil)) (.two (by rw [hg];first | exact .aggU rfl rfl | exact .aggLe rfl ⟨PVLe.nilSl,PVLe.nilSl,trivial⟩) (.int (by rw [hg])))
 have hm:¬ (mayH g t 4 false).2≠0:=by simpa using hc0
 obtain ⟨hr,hrt,hik,hnd,hlo⟩:=Zli (by decide) (Decidable.not_not.1 hm)
 have hrr:=Zq hr
 have hlk:=Zjv (κ:=TxD.id) (k:=t.id) g.txs
 refine wp_seq ?_
 refine Za hS (qg 0 101 r1 r1 (qa 101 r1 r1 (qu Tryz.underlying22 r1 (qf (o_eql .t qi) r1 qz (qN rfl rfl qZ))))) hB [20,6,5,4,3,2] [103,102,101,0] rfl rfl fun a w F hS=>Zb ?_
 refine Zd hS rfl (fun hc1=>?_) (fun hc1=>?_)
 ·skip
  have hg:Zam g t=(zeroH,2):=by unfold Zam;rw [if_neg hm,if_pos (by simp at hc1;omega)]
  refine wp_seq ?_
  refine Za hS (qf (oB [] [.slice none 0 0,.slice none 0 0] [(0,1),(1,1)] .nil) trivial qz (qs 2 103 r2 r1 (qI qZ))) hB [6,5,4,3,2] [103,102,101,0] rfl rfl fun a w F hS=>Zb (wp_ret (Zf (Ze ?_)))
  refine Zr hfr hS rfl (.cl 103 true 2 rfl rfl (.tmp rfl .nil)) (.two (by rw [hg];first | exact .aggU rfl rfl | exact .aggLe rfl ⟨PVLe.nilSl,PVLe.nilSl,trivial⟩) (.int (by rw [hg])))
 have hg:Zam g t=(⟨g.txs.take (lowK TxD.id t.id g.txs) ++ [t] ++ g.txs.drop (lowK TxD.id t.id g.txs),settleO t g.orders⟩,0):=by unfold Zam;rw [if_neg hm,if_neg (by simp at hc1;omega)]
 refine wp_skip (Zh (Zb (wp_seq ?_)))
 replace hS:=hS.fresh 104 rfl
 refine Zc hS (qe 2 101 r1 r1 (qf (Ze2 104 (Zho g hs) Tryz.func93 rfl (by kernel_rfl) (Args.one (.pagg .t))) r1 r1 (qf (oH [.slice none 0 0,.slice none 0 0] 105) trivial qz (qf (oA 2 105 .same (.conv .t (Ent.fnAgg (.fn (.fn .nil))))) r2 r1 qZ)))) hB [8,6,5,4,3] [105,104,103,102,101,0] (fun _=>rfl) (fun _=>rfl) fun τ a w F hS=>?_
 try dsimp only [RS.sub,SF.sub,CF.sub,csub,Anc.sub,List.map,Zg,xL,xM,Nat.reduceAdd,xD,xE,xT,xU,xC,xN,zCF,ldSF,Zo,rTx,Zz,ZQ,rInt,rOp] at hS
 generalize τ 8=v8 at hS
 generalize τ 27=v27 at hS
 replace hS:=hS.turn 104 rfl (r':=RS.hp (HP.star [.ob (.val (cellN 0 v27)) (Zu 38 3 rTx g.txs),.ob (.val (cellN 1 v27)) (Zu 41 2 Zz g.orders)])) (fun _ _ _ _ h=>h)
 obtain ⟨F,hS⟩:=hS.peel 104 70 rfl rfl
 obtain ⟨F,hS⟩:=hS.peel 104 71 rfl rfl
 obtain ⟨F,hS⟩:=hS.nm [8,6,5,4,3] [105,103,102,101,71,70,0] rfl rfl
 generalize cellN 0 v27=va at hS
 generalize cellN 1 v27=vb at hS
 refine Zb (wp_seq ?_)
 refine ZdF hS (qg 0 105 r1 r1 (qa 105 r1 r1 (qM rfl rfl (qe 3 102 r1 r1 (qf (oP (Ze3 t (by omega)) Tryz.func95 (Args.one (.pagg .t))) r1 qz (qf (Zk (sz:=3) (zs:=[.int .i64 0,.bool false,.slice none 0 0]) (r:=[(0,.tmp 32)]) (l:=[_,_,_]) Tryz.underlying22 (by kernel_rfl) (by kernel_rfl) (by kernel_rfl) (by kernel_rfl) rfl rfl (.agg rfl (.conv .t .agg) (by kernel_rfl) (by kernel_rfl) .nil) rfl) r1 qz (qf (Zbo 70 (Zse va g.txs (lowK TxD.id t.id g.txs) t (by omega) hlk) Tryz.func94 rfl (by kernel_rfl) (Args.three .t (.conv .t (.int hlo)) (.conv .t (Ent.arrSl (R:=rTx) (l:=[t]) rfl))) Za3) r3 r1 (qg 0 105 r1 r1 (qf (Zaz 105 .adr (by kernel_rfl) (by kernel_rfl)) r2 r1 qZ))))))))) hB [8,5,4,3] [105,103,102,101,71,70,0] (fun _=>rfl) (fun _=>rfl) fun τ a w F hS=>?_
 try dsimp only [RS.sub,SF.sub,CF.sub,csub,Anc.sub,List.map,Zg,xL,xM,Nat.reduceAdd,xD,xE,xT,xU,xC,xN,zCF,ldSF,Zo,rTx,Zz,ZQ,rInt,rOp] at hS
 generalize τ 34=v34 at hS
 refine Zb (wp_seq ?_)
 replace hS:=hS.fresh 72 rfl
 obtain ⟨F,hS⟩:=hS.push 72 71 rfl rfl rfl rfl
 obtain ⟨F,hS⟩:=hS.push 72 105 rfl rfl rfl rfl
 replace hS:=hS.turn 72 rfl (r':=RS.hp (Zl1 25 41 v8 v34 g.orders)) (fun _ _ _ _ h=>⟨vb,h⟩)
 obtain ⟨F,hS⟩:=hS.nm [8,5,4,3] [103,102,101,72,70,0] rfl rfl
 refine Za hS (qe 3 102 r1 r1 (qf (o_callG1 72 (ZhV v8 v34 g.orders t hs.2 hrr.2 ht) Tryz.func96 rfl (by kernel_rfl) (Args.two .t (.pagg .t))) r2 r1 qZ)) hB [8,5,4] [103,102,101,72,70,0] rfl rfl fun a w F hS=>?_
 replace hS:=hS.turn 72 rfl (r':=RS.hp (HP.ex fun vb:Value=>HP.star [.pt (.val v8) 25 [.pv (.is v34),.pv (.is vb)],.ob (.val vb) (Zu 41 2 Zz (settleO t g.orders))])) (fun _ _ _ _ h=>h)
 obtain ⟨vb2,hS⟩:=hS.open_ex 72 rfl
 obtain ⟨F,hS⟩:=hS.peel 72 73 rfl rfl
 obtain ⟨F,hS⟩:=hS.peel 72 74 rfl rfl
 obtain ⟨F,hS⟩:=hS.nm [8,5,4] [103,102,101,74,73,70,0] rfl rfl
 obtain ⟨F,hS⟩:=hS.giveCell 70 73 0 rfl rfl rfl rfl rfl
 try dsimp only [List.set] at hS
 obtain ⟨F,hS⟩:=hS.nm [8,5,4] [103,102,101,74,73,0] rfl rfl
 obtain ⟨F,hS⟩:=hS.giveCell 74 73 1 rfl rfl rfl rfl rfl
 try dsimp only [List.set] at hS
 obtain ⟨F,hS⟩:=hS.nm [8,5,4] [103,102,101,73,0] rfl rfl
 refine Zb (wp_seq ?_)
 refine Za hS (qe 2 73 r1 r1 (qs 2 103 r2 r1 (qI qZ))) hB [5,4] [103,102,101,73,0] rfl rfl fun a w F hS=>Zb (wp_ret ?_)
 refine Zr hfr hS rfl (.cl 103 true 2 rfl rfl (.tmp rfl .nil)) (.two (by rw [hg];first | exact .aggU rfl rfl | exact .aggLe rfl ⟨PVLe.nilSl,PVLe.nilSl,trivial⟩) (.int (by rw [hg])))
theorem Zoz (g:HistD) (id:Int) (hs:Za0 g):FnP Tryz.prog 53 [.agg (Zo g),.int .i64 id] (.tup [.agg (Zo (Zad g id).1),.int .i64 (Zad g id).2]):=by
 refine FnP.mk Tryz.func53 rfl Tryz.ntmps53 rfl ?_
 intro B a w F hB hfr hS
 have hsl:=hs.1.1
 refine wp_seq ?_
 refine Zc hS (qx 101 r1 (qf (oH [.slice none 0 0,.slice none 0 0] 102) trivial qz (qI qZ))) hB [5,4,2,1] [102,101,0] (fun _=>rfl) (fun _=>rfl) fun τ a w F hS=>?_
 try dsimp only [RS.sub,SF.sub,CF.sub,csub,Anc.sub,List.map,zCF,Zo,rTx,Zz,ZQ,rInt,rOp] at hS
 generalize τ 2=v2 at hS
 generalize τ 4=v4 at hS
 refine Zb (wp_seq (wp_seq ?_))
 refine Za hS (qe 2 101 r1 r1 (qf (oP (Zd4 g hs) Tryz.func7 (Args.one (.pagg .t))) r1 qz (qf (o_not .t) r1 qz qZ))) hB [11,5,4,2,1] [102,101,0] rfl rfl fun a w F hS=>Zb ?_
 refine Zd hS rfl (fun hc0=>?_) (fun hc0=>?_)
 ·skip
  have hr:¬ Zx g:=by simpa using hc0
  have hg:Zad g id=(zeroH,5):=by unfold Zad;rw [if_pos hr]
  refine wp_seq ?_
  refine Za hS (qf (oB [] [.slice none 0 0,.slice none 0 0] [(0,1),(1,1)] .nil) trivial qz (qs 2 102 r2 r1 (qI qZ))) hB [5,4,2,1] [102,101,0] rfl rfl fun a w F hS=>Zb (wp_ret (Ze ?_))
  refine Zr hfr hS rfl (.cl 102 true 2 rfl rfl (.tmp rfl .nil)) (.two (by rw [hg];first | exact .aggU rfl rfl | exact .aggLe rfl ⟨PVLe.nilSl,PVLe.nilSl,trivial⟩) (.int (by rw [hg])))
 have hr:Zx g:=by simpa using hc0
 have hrr:=Zq hr
 refine wp_skip (Zb (wp_seq ?_))
 refine Za hS (qe 2 101 r1 r1 (qM rfl rfl (qf (oP (Zon g id hs.1 hrr.1) Tryz.func98 (Args.two (.pagg .t) .t)) r2 qz (qM rfl rfl (qf (o_extract .t rfl) r1 qz (qf (o_extract .t rfl) r1 qz (qN rfl rfl (qN rfl rfl qZ)))))))) hB [7,6,5,4,2,1] [102,101,0] rfl rfl fun a w F hS=>Zb (wp_seq (wp_block (wp_seq ?_)))
 refine Za hS (qM rfl rfl (qf (o_not .t) r1 qz (qN rfl rfl qZ))) hB [19,6,5,4,2,1] [102,101,0] rfl rfl fun a w F hS=>Zb ?_
 refine Zd hS rfl (fun hc1=>?_) (fun hc1=>?_)
 ·skip
  have hik:isK TxD.id id g.txs=false:=by simpa using hc1
  have hg:Zad g id=(zeroH,3):=by unfold Zad;rw [if_neg (Decidable.not_not.2 hr),if_pos hik]
  refine wp_seq ?_
  refine Za hS (qf (oB [] [.slice none 0 0,.slice none 0 0] [(0,1),(1,1)] .nil) trivial qz (qs 2 102 r2 r1 (qI qZ))) hB [6,5,4,2,1] [102,101,0] rfl rfl fun a w F hS=>Zb (wp_ret (Zf (Ze ?_)))
  refine Zr hfr hS rfl (.cl 102 true 2 rfl rfl (.tmp rfl .nil)) (.two (by rw [hg];first | exact .aggU rfl rfl | exact .aggLe rfl ⟨PVLe.nilSl,PVLe.nilSl,trivial⟩) (.int (by rw [hg])))
 have hik:isK TxD.id id g.txs=true:=by simpa using hc1
 have hlk:=(Zdk hrr.1 hik).1
 refine wp_seq ?_
 refine Za hS (qe 2 101 r1 r1 (qM rfl rfl (qf (oB [(0,.tmp 25)] [.int .i64 0,.bool false,.slice none 0 0] [(0,1),(1,1),(2,1)] (.one rfl .t one_int (by kernel_rfl) .nil)) r1 qz (qf (oP (Zoe g (Zc8 id) hs.1 (by simp [Zc8])) Tryz.func97 (Args.two (.pagg .t) (.conv (.pagg .t) (Ent.paggLe (l:=[.int .i64 id,.bool false,.is (.slice none 0 0)]) (l':=[.int .i64 id,.bool false,.sl rOp []]) ⟨PVLe.refl,PVLe.refl,PVLe.nilSl,trivial⟩)))) r2 qz (qN rfl rfl qZ))))) hB [23,6,5,4,2,1] [102,101,0] rfl rfl fun a w F hS=>Zb ?_
 refine Zd hS rfl (fun hc2=>?_) (fun hc2=>?_)
 ·skip
  have hg:Zad g id=(zeroH,7):=by unfold Zad;rw [if_neg (Decidable.not_not.2 hr),if_neg (by rw [hik];simp),if_pos (by simpa using hc2)]
  refine wp_seq ?_
  refine Za hS (qf (oB [] [.slice none 0 0,.slice none 0 0] [(0,1),(1,1)] .nil) trivial qz (qs 2 102 r2 r1 (qI qZ))) hB [6,5,4,2,1] [102,101,0] rfl rfl fun a w F hS=>Zb (wp_ret (Zf (Ze ?_)))
  refine Zr hfr hS rfl (.cl 102 true 2 rfl rfl (.tmp rfl .nil)) (.two (by rw [hg];first | exact .aggU rfl rfl | exact .aggLe rfl ⟨PVLe.nilSl,PVLe.nilSl,trivial⟩) (.int (by rw [hg])))
 have hg:Zad g id=(⟨g.txs.take (lowK TxD.id id g.txs)++g.txs.drop (lowK TxD.id id g.txs+1),settleO (Zc8 id) g.orders⟩,0):=by unfold Zad;rw [if_neg (Decidable.not_not.2 hr),if_neg (by rw [hik];simp),if_neg (by simpa using hc2)]
 refine wp_skip (Zh (Zb (wp_seq ?_)))
 replace hS:=hS.fresh 103 rfl
 refine Zc hS (qe 2 101 r1 r1 (qf (Ze2 103 (Zho g hs) Tryz.func93 rfl (by kernel_rfl) (Args.one (.pagg .t))) r1 r1 (qf (oH [.slice none 0 0,.slice none 0 0] 104) trivial qz (qf (oA 2 104 .same (.conv .t (Ent.fnAgg (.fn (.fn .nil))))) r2 r1 qZ)))) hB [8,6,5,4,1] [104,103,102,101,0] (fun _=>rfl) (fun _=>rfl) fun τ a w F hS=>?_
 try dsimp only [RS.sub,SF.sub,CF.sub,csub,Anc.sub,List.map,Zg,xL,xM,Nat.reduceAdd,xD,xE,xT,xU,xC,xN,zCF,ldSF,Zo,rTx,Zz,ZQ,rInt,rOp] at hS
 generalize τ 8=v8 at hS
 generalize τ 30=v30 at hS
 replace hS:=hS.turn 103 rfl (r':=RS.hp (HP.star [.ob (.val (cellN 0 v30)) (Zu 38 3 rTx g.txs),.ob (.val (cellN 1 v30)) (Zu 41 2 Zz g.orders)])) (fun _ _ _ _ h=>h)
 obtain ⟨F,hS⟩:=hS.peel 103 70 rfl rfl
 obtain ⟨F,hS⟩:=hS.peel 103 71 rfl rfl
 obtain ⟨F,hS⟩:=hS.nm [8,6,5,4,1] [104,102,101,71,70,0] rfl rfl
 generalize cellN 0 v30=va at hS
 generalize cellN 1 v30=vb at hS
 refine Zb (wp_seq ?_)
 refine Zc hS (qg 0 104 r1 r1 (qa 104 r1 r1 (qM rfl rfl (qM rfl rfl (qp r1 (qf (Zbo 70 (Zss va g.txs (lowK TxD.id id g.txs) (by omega) hlk) Tryz.func99 rfl (by kernel_rfl) (Args.three .t .t (.conv .t (.int (wrap_succ (by omega))))) Za3) r3 r1 (qg 0 104 r1 r1 (qf (Zaz 104 .adr (by kernel_rfl) (by kernel_rfl)) r2 r1 qZ)))))))) hB [8,5,4,1] [104,102,101,71,70,0] (fun _=>rfl) (fun _=>rfl) fun τ a w F hS=>?_
 try dsimp only [RS.sub,SF.sub,CF.sub,csub,Anc.sub,List.map,Zg,xL,xM,Nat.reduceAdd,xD,xE,xT,xU,xC,xN,zCF,ldSF,Zo,rTx,Zz,ZQ,rInt,rOp] at hS
 generalize τ 36=v36 at hS
 refine Zb (wp_seq ?_)
 replace hS:=hS.fresh 72 rfl
 obtain ⟨F,hS⟩:=hS.push 72 71 rfl rfl rfl rfl
 obtain ⟨F,hS⟩:=hS.push 72 104 rfl rfl rfl rfl
 replace hS:=hS.turn 72 rfl (r':=RS.hp (Zl1 25 41 v8 v36 g.orders)) (fun _ _ _ _ h=>⟨vb,h⟩)
 obtain ⟨F,hS⟩:=hS.nm [8,5,4,1] [102,101,72,70,0] rfl rfl
 refine Za hS (qM rfl rfl (qf (oB [(0,.tmp 38)] [.int .i64 0,.bool false,.slice none 0 0] [(0,1),(1,1),(2,1)] (.one rfl .t one_int (by kernel_rfl) .nil)) r1 qz (qf (o_callG1 72 (ZhV v8 v36 g.orders (Zc8 id) hs.2 hrr.2 (by simp [Zc8])) Tryz.func96 rfl (by kernel_rfl) (Args.two .t (.conv (.pagg .t) (Ent.paggLe (l:=[.int .i64 id,.bool false,.is (.slice none 0 0)]) (l':=[.int .i64 id,.bool false,.sl rOp []]) ⟨PVLe.refl,PVLe.refl,PVLe.nilSl,trivial⟩)))) r2 r1 qZ))) hB [8,5,4] [102,101,72,70,0] rfl rfl fun a w F hS=>?_
 replace hS:=hS.turn 72 rfl (r':=RS.hp (HP.ex fun vb:Value=>HP.star [.pt (.val v8) 25 [.pv (.is v36),.pv (.is vb)],.ob (.val vb) (Zu 41 2 Zz (settleO (Zc8 id) g.orders))])) (fun _ _ _ _ h=>h)
 obtain ⟨vb2,hS⟩:=hS.open_ex 72 rfl
 obtain ⟨F,hS⟩:=hS.peel 72 73 rfl rfl
 obtain ⟨F,hS⟩:=hS.peel 72 74 rfl rfl
 obtain ⟨F,hS⟩:=hS.nm [8,5,4] [102,101,74,73,70,0] rfl rfl
 obtain ⟨F,hS⟩:=hS.giveCell 70 73 0 rfl rfl rfl rfl rfl
 try dsimp only [List.set] at hS
 obtain ⟨F,hS⟩:=hS.nm [8,5,4] [102,101,74,73,0] rfl rfl
 obtain ⟨F,hS⟩:=hS.giveCell 74 73 1 rfl rfl rfl rfl rfl
 try dsimp only [List.set] at hS
 obtain ⟨F,hS⟩:=hS.nm [8,5,4] [102,101,73,0] rfl rfl
 refine Zb (wp_seq ?_)
 refine Za hS (qe 2 73 r1 r1 (qs 2 102 r2 r1 (qI qZ))) hB [5,4] [102,101,73,0] rfl rfl fun a w F hS=>Zb (wp_ret ?_)
 refine Zr hfr hS rfl (.cl 102 true 2 rfl rfl (.tmp rfl .nil)) (.two (by rw [hg];first | exact .aggU rfl rfl | exact .aggLe rfl ⟨PVLe.nilSl,PVLe.nilSl,trivial⟩) (.int (by rw [hg])))
theorem Zo7 (g:HistD) (t:TxD) (hs:Za0 g) (ht:t.ops.length≤1000):FnP Tryz.prog 52 [.agg (Zo g),.agg (rTx t)] (.tup [.agg (Zo (Za4 g t).1),.int .i64 (Za4 g t).2]):=by
 refine FnP.mk Tryz.func52 rfl Tryz.ntmps52 rfl ?_
 intro B a w F hB hfr hS
 have hsl:=hs.1.1
 refine wp_seq ?_
 refine Zc hS (qx 101 r1 (qx 102 r1 (qf (oH [.slice none 0 0,.slice none 0 0] 103) trivial qz (qI qZ)))) hB [5,4,3,2] [103,102,101,0] (fun _=>rfl) (fun _=>rfl) fun τ a w F hS=>?_
 try dsimp only [RS.sub,SF.sub,CF.sub,csub,Anc.sub,List.map,zCF,Zo,rTx,Zz,ZQ,rInt,rOp] at hS
 generalize τ 2=v2 at hS
 generalize τ 3=v3 at hS
 generalize τ 4=v4 at hS
 refine Zb (wp_seq ?_)
 refine Za hS (qe 2 101 r1 r1 (qe 3 102 r1 r1 (qf (oP (Zr7 g t 3 true hs ht) Tryz.func92 (Args.four (.pagg .t) (.pagg .t) qi .cb)) r2 qz (qM rfl rfl (qf (o_extract .t rfl) r1 qz (qf (o_extract .t rfl) r1 qz (qN rfl rfl (qN rfl rfl qZ)))))))) hB [7,6,5,4,3,2] [103,102,101,0] rfl rfl fun a w F hS=>Zb (wp_seq (wp_block (wp_seq ?_)))
 refine Za hS (qM rfl rfl (qf (o_neq .t qi) r1 qz (qN rfl rfl qZ))) hB [15,7,6,5,4,3,2] [103,102,101,0] rfl rfl fun a w F hS=>Zb ?_
 refine Zd hS rfl (fun hc0=>?_) (fun hc0=>?_)
 ·skip
  have hm:(mayH g t 3 true).2≠0:=by simpa using hc0
  have hg:Za4 g t=(zeroH,(mayH g t 3 true).2):=by unfold Za4;rw [if_pos hm]
  refine wp_seq ?_
  refine Za hS (qf (oB [] [.slice none 0 0,.slice none 0 0] [(0,1),(1,1)] .nil) trivial qz (qM rfl rfl (qs 2 103 r2 r1 (qN rfl rfl qZ)))) hB [6,5,4,3,2] [103,102,101,0] rfl rfl fun a w F hS=>Zb (wp_ret (Zf (Ze ?_)))
  refine Zr hfr hS rfl (.cl 103 true 2 rfl rfl (.tmp rfl .nil)) (.two (by rw [hg];first | exact .aggU rfl rfl | exact .aggLe rfl ⟨PVLe.nilSl,PVLe.nilSl,trivial⟩) (.int (by rw [hg])))
 have hm:¬ (mayH g t 3 true).2≠0:=by simpa using hc0
 obtain ⟨hr,hrt,hik,hnd,hlo⟩:=Zli (by decide) (Decidable.not_not.1 hm)
 have hrr:=Zq hr
 have hlk:=Zjv (κ:=TxD.id) (k:=t.id) g.txs
 refine wp_seq ?_
 refine Za hS (qe 2 101 r1 r1 (qe 3 102 r1 r1 (qf (oP (Zoe g t hs.1 ht) Tryz.func97 (Args.two (.pagg .t) (.pagg .t))) r2 qz (qN rfl rfl qZ)))) hB [20,6,5,4,3,2] [103,102,101,0] rfl rfl fun a w F hS=>Zb ?_
 refine Zd hS rfl (fun hc1=>?_) (fun hc1=>?_)
 ·skip
  have hg:Za4 g t=(zeroH,7):=by unfold Za4;rw [if_neg hm,if_pos (by simpa using hc1)]
  refine wp_seq ?_
  refine Za hS (qf (oB [] [.slice none 0 0,.slice none 0 0] [(0,1),(1,1)] .nil) trivial qz (qs 2 103 r2 r1 (qI qZ))) hB [6,5,4,3,2] [103,102,101,0] rfl rfl fun a w F hS=>Zb (wp_ret (Zf (Ze ?_)))
  refine Zr hfr hS rfl (.cl 103 true 2 rfl rfl (.tmp rfl .nil)) (.two (by rw [hg];first | exact .aggU rfl rfl | exact .aggLe rfl ⟨PVLe.nilSl,PVLe.nilSl,trivial⟩) (.int (by rw [hg])))
 have hlt:=(Zdk hrr.1 hik).1
 have hg:Za4 g t=(⟨g.txs.set (((mayH g t 3 true).1).toNat) t,settleO t g.orders⟩,0):=by unfold Za4;rw [if_neg hm,if_neg (by simpa using hc1),hlo,Int.toNat_natCast]
 refine wp_skip (Zh (Zb (wp_seq ?_)))
 replace hS:=hS.fresh 104 rfl
 refine Zc hS (qe 2 101 r1 r1 (qf (Ze2 104 (Zho g hs) Tryz.func93 rfl (by kernel_rfl) (Args.one (.pagg .t))) r1 r1 (qf (oH [.slice none 0 0,.slice none 0 0] 105) trivial qz (qf (oA 2 105 .same (.conv .t (Ent.fnAgg (.fn (.fn .nil))))) r2 r1 qZ)))) hB [8,6,5,4,3] [105,104,103,102,101,0] (fun _=>rfl) (fun _=>rfl) fun τ a w F hS=>?_
 try dsimp only [RS.sub,SF.sub,CF.sub,csub,Anc.sub,List.map,Zg,xL,xM,Nat.reduceAdd,xD,xE,xT,xU,xC,xN,zCF,ldSF,Zo,rTx,Zz,ZQ,rInt,rOp] at hS
 generalize τ 8=v8 at hS
 generalize τ 26=v26 at hS
 replace hS:=hS.turn 104 rfl (r':=RS.hp (HP.star [.ob (.val (cellN 0 v26)) (Zu 38 3 rTx g.txs),.ob (.val (cellN 1 v26)) (Zu 41 2 Zz g.orders)])) (fun _ _ _ _ h=>h)
 obtain ⟨F,hS⟩:=hS.peel 104 70 rfl rfl
 obtain ⟨F,hS⟩:=hS.peel 104 71 rfl rfl
 obtain ⟨F,hS⟩:=hS.nm [8,6,5,4,3] [105,103,102,101,71,70,0] rfl rfl
 generalize cellN 0 v26=va at hS
 generalize cellN 1 v26=vb at hS
 refine Zb (wp_seq ?_)
 refine Zw hS (qg 0 105 r1 r1 (qa 105 r1 r1 (qM rfl rfl (qe 3 102 r1 r1 (qf (oP (Ze3 t (by omega)) Tryz.func95 (Args.one (.pagg .t))) r1 qz (qf (o_indexAddr_row (sz:=3) 70 (.mk Tryz.underlying22 (by kernel_rfl)) .is .t (by rw [hlo];omega) (by rw [hlo];omega) (by rfl)) r2 r1 (qf (Zdl (sz:=3) 70 .t (by intro x;rfl) (by rw [hlo];omega) .t (by kernel_rfl)) r2 r1 qZ))))))) hB [8,5,4,3] [105,103,102,101,71,70,0] rfl rfl fun a w F hS=>?_
 try dsimp only [List.map,Zg,xL,xM,Nat.reduceAdd,xD,xE,xT,xU,xC,xN,zCF,ldSF,Zo,rTx,Zz,ZQ,rInt,rOp] at hS
 try simp only [Int.toNat_natCast] at hS
 refine Zb (wp_seq ?_)
 replace hS:=hS.fresh 72 rfl
 obtain ⟨F,hS⟩:=hS.push 72 71 rfl rfl rfl rfl
 obtain ⟨F,hS⟩:=hS.push 72 105 rfl rfl rfl rfl
 replace hS:=hS.turn 72 rfl (r':=RS.hp (Zl1 25 41 v8 va g.orders)) (fun _ _ _ _ h=>⟨vb,h⟩)
 obtain ⟨F,hS⟩:=hS.nm [8,5,4,3] [103,102,101,72,70,0] rfl rfl
 refine Za hS (qe 3 102 r1 r1 (qf (o_callG1 72 (ZhV v8 va g.orders t hs.2 hrr.2 ht) Tryz.func96 rfl (by kernel_rfl) (Args.two .t (.pagg .t))) r2 r1 qZ)) hB [8,5,4] [103,102,101,72,70,0] rfl rfl fun a w F hS=>?_
 replace hS:=hS.turn 72 rfl (r':=RS.hp (HP.ex fun vb:Value=>HP.star [.pt (.val v8) 25 [.pv (.is va),.pv (.is vb)],.ob (.val vb) (Zu 41 2 Zz (settleO t g.orders))])) (fun _ _ _ _ h=>h)
 obtain ⟨vb2,hS⟩:=hS.open_ex 72 rfl
 obtain ⟨F,hS⟩:=hS.peel 72 73 rfl rfl
 obtain ⟨F,hS⟩:=hS.peel 72 74 rfl rfl
 obtain ⟨F,hS⟩:=hS.nm [8,5,4] [103,102,101,74,73,70,0] rfl rfl
 obtain ⟨F,hS⟩:=hS.giveCell 70 73 0 rfl rfl rfl rfl rfl
 try dsimp only [List.set] at hS
 obtain ⟨F,hS⟩:=hS.nm [8,5,4] [103,102,101,74,73,0] rfl rfl
 obtain ⟨F,hS⟩:=hS.giveCell 74 73 1 rfl rfl rfl rfl rfl
 try dsimp only [List.set] at hS
 obtain ⟨F,hS⟩:=hS.nm [8,5,4] [103,102,101,73,0] rfl rfl
 refine Zb (wp_seq ?_)
 refine Za hS (qe 2 73 r1 r1 (qs 2 103 r2 r1 (qI qZ))) hB [5,4] [103,102,101,73,0] rfl rfl fun a w F hS=>Zb (wp_ret ?_)
 refine Zr hfr hS rfl (.cl 103 true 2 rfl rfl (.tmp rfl .nil)) (.two (by rw [hg];first | exact .aggU rfl rfl | exact .aggLe rfl ⟨PVLe.nilSl,PVLe.nilSl,trivial⟩) (.int (by rw [hg])))
theorem ZkA (l:List Int):FnP Tryz.prog 80 [.sl rInt l] (.bool (decide (ZaO l))):=by
 refine FnP.mk Tryz.func80 rfl Tryz.ntmps80 rfl ?_
 intro B a w F hB hfr hS
 have hll:=Sat.lenSl hS (i:=0) rfl
 refine wp_seq ?_
 refine Za hS qB hB [2,0] [0] rfl rfl fun a w F hS=>Zb (wp_seq ?_)
 refine Zc hS (qf (ZoA (vk:=.i64) (ok:=(fun _=>True)) (kv:=(fun n:Int=>Value.int .i64 n)) 101) trivial qz (qN rfl rfl qZ)) hB [3,2,0] [101,0] (fun _=>rfl) (fun _=>rfl) fun τ a w F hS=>?_
 try dsimp only [RS.sub,SF.sub,CF.sub,csub,Anc.sub,List.map,Zg,xL,xM,Nat.reduceAdd,xD,xE,xT,xU,xC,xN,zCF,rInt] at hS
 generalize τ 6=v6 at hS
 refine Zb (wp_seq (wp_seq ?_))
 refine Za hS (qM rfl rfl (qu Tryz.underlying39 r1 (qJ qZ))) hB [9,8,7,3,2] [101,0] rfl rfl fun a w F hS=>Zb (wp_block ?_)
 refine Zp (σ:=(Nat)×(List (Zb3 Int))×(Nat)) [2,3,7,8] [0] (fun s=>[(9,.pv (.int .i64 (s.1:Int)))]) (fun s=>[(101,.ob (.val v6) (ZqR .i64 (fun _=>True) (fun n:Int=>Value.int .i64 n) s.2.1 s.2.2))]) (fun s=>s.1≤l.length∧(ZaO (l.take s.1) ∧ ∀ x,mVal x s.2.1=if x ∈ l.take s.1 then 1 else 0)) (fun s=>l.length - s.1) ((0),([]),(0)) hS ⟨rfl,rfl,rfl,rfl,rfl,trivial⟩ ⟨rfl,rfl,trivial⟩ ⟨Nat.zero_le _,⟨⟨by simp,by simp⟩,fun x=>by simp [mVal]⟩⟩ ?_
 clear hS;intro s a w F hC hS
 obtain ⟨i,es,ck⟩:=s
 try dsimp only at hC
 obtain ⟨F,hS⟩:=hS.nm [9,8,7,3,2] [101,0] rfl rfl
 try dsimp only at hS
 obtain ⟨hi,hq⟩:=hC
 obtain ⟨hro,hmv⟩:=hq
 have htk:∀ hil:i<l.length,l.take (i+1)=l.take i ++ [Go.Gm.nth l i]:=fun hil=>ZF hil
 have hv1:∀ x,0≤mVal x es∧mVal x es≤1:=fun x=>by rw [hmv];split <;> omega
 have hv2:mVal (Go.Gm.nth l i) es=if Go.Gm.nth l i ∈ l.take i then 1 else 0:=hmv _
 refine wp_seq ?_
 refine Za hS (qL r2) hB [10,9,8,7,3,2] [101,0] rfl rfl fun a w F hS=>Zb (wp_seq ?_)
 refine Zd hS rfl (fun hc0=>?_) (fun hc0=>?_)
 ·skip
  have hil:i<l.length:=by simp at hc0;omega
  refine wp_skip (Zb (wp_seq (wp_block (wp_seq ?_))))
  refine Za hS (qy 1 Tryz.underlying39 r2 (qf (oR false 1 .t) r1 qz (qN rfl rfl qZ))) hB [9,8,7,5,3,2] [101,0] rfl rfl fun a w F hS=>?_
  try simp only [Int.toNat_natCast] at hS
  refine Zb (wp_seq ?_)
  refine Za hS (qM rfl rfl (qM rfl rfl (qf (ZkV 101 Tryz.underlying187 (Zj6 Tryz.underlying3) (by kernel_rfl) .is (ZX.int .t rfl)) r2 r1 (qp r1 (qf (ZjE 101 Tryz.underlying187 (Zj6 Tryz.underlying3) .is (ZX.int .t rfl) .t) r3 r1 qZ))))) hB [9,8,7,5,3,2] [101,0] rfl rfl fun a w F hS=>Zb (wp_seq ?_)
  refine Za hS (qM rfl rfl (qf (ZbC .t qi) r1 qz (qM rfl rfl (qm rfl rfl rfl rfl (qk rfl (fun h=>ZaJ (.w h) qi) r2 qz (qf (ZaC .t .t) r2 qz (qM rfl rfl (qm rfl rfl rfl rfl (qm rfl rfl rfl rfl (qk rfl (fun h=>ZkV 101 Tryz.underlying187 (Zj6 Tryz.underlying3) (by kernel_rfl) (.w h .is) (ZX.int (.w h) rfl)) r3 r1 (qk rfl (fun h=>ZaJ (.w h) qi) r2 qz (qf (ZaC .t .t) r2 qz qZ)))))))))))) hB [28,9,8,7,3,2] [101,0] rfl rfl fun a w F hS=>Zb ?_
  refine Zd hS rfl (fun hc1=>?_) (fun hc1=>?_)
  ·skip
   have hg:false=decide (ZaO l):=(decide_eq_false fun hr=>by have h2:=hr.take (i+1);rw [htk hil] at h2;have h3:=ZaO.snoc.1 h2;have h4:=h3.2.1;have h5:=h3.2.2;rw [if_neg h5] at hv2;simp [Zhn,hv2] at hc1;first | omega | (rw [show IntKind.wrap .i64 1=1 by decide] at hc1;omega)).symm
   refine wp_seq ?_
   refine Za hS qB hB [9,8,7,3,2] [101,0] rfl rfl fun a w F hS=>Zb (wp_ret (Zf (Ze (Ze (Zf (Ze ?_))))))
   refine Zm hfr hS rfl rfl rfl (.bool hg)
  have hw1:IntKind.wrap .i64 (mVal (Go.Gm.nth l i) es+1)=mVal (Go.Gm.nth l i) es+1:=ZA (by have:=hv1 (Go.Gm.nth l i);omega)
  have hR2:ZaO (l.take (i+1)) ∧ ∀ x,mVal x (mPut (Go.Gm.nth l i) (IntKind.wrap .i64 (mVal (Go.Gm.nth l i) es+1)) (es,ck)).1=if x ∈ l.take (i+1) then 1 else 0:=by
    have hh:=hc1
    simp [Zhn,hw1] at hh
    have hni:Go.Gm.nth l i ∉ l.take i:=fun hm=>by rw [if_pos hm] at hv2;omega
    rw [if_neg hni] at hv2
    refine ⟨by rw [htk hil];exact ZaO.snoc.2 ⟨hro,by omega,hni⟩,fun x=>?_⟩
    rw [Zhn,hw1,hv2,hmv,htk hil]
    by_cases hx:x=Go.Gm.nth l i
    · subst hx;simp
    · simp [hx]
  generalize (mPut (Go.Gm.nth l i) (IntKind.wrap .i64 (mVal (Go.Gm.nth l i) es+1)) (es,ck))=ms at hS hR2
  obtain ⟨es2,ck2⟩:=ms
  dsimp only at hS hR2
  refine wp_skip (Zh (Zb ?_))
  refine Za hS (qp r1 (qM rfl rfl qZ)) hB [9,8,7,3,2] [101,0] rfl rfl fun a w F hS=>Zb ?_
  replace hS:=hS.ent (i:=9) (s':=.pv (.int .i64 ((i+1:Nat):Int))) rfl (.int (wrap_succ (by omega)))
  obtain ⟨F,hS⟩:=hS.nm [8,7,3,2,9] [0,101] rfl rfl
  exact ⟨((i+1),(es2),(ck2)),F,⟨by omega,hR2⟩,hS,by omega⟩
 have hil:i=l.length:=by simp at hc0;omega
 have hg:true=decide (ZaO l):=(decide_eq_true (by rw [hil,List.take_length] at hro;exact hro)).symm
 refine wp_exit (Zi (Zi (Zl (Zb (wp_seq ?_)))))
 refine Za hS qB hB [2] [101,0] rfl rfl fun a w F hS=>Zb (wp_ret ?_)
 refine Zm hfr hS rfl rfl rfl (.bool hg)
theorem Znx {l:List Int} {tx place:Int} (h0:0≤Zbl tx l) (h1:Zbl tx l<place) (h2:place<l.length):(l.take (Zbl tx l).toNat++(l.take (place+1).toNat).drop (Zbl tx l+1).toNat++l.drop place.toNat).set place.toNat tx=(Zaf l tx place).1:=by
 unfold Zaf
 rw [if_neg (by omega),if_neg (by simp;omega)]
 have:=Zo2 (l:=l) (i:=(Zbl tx l).toNat) (p:=place.toNat) (x:=tx) (by omega) (by omega)
 rw [Int.toNat_of_nonneg (by omega)] at this
 rw [show (place+1).toNat=place.toNat+1 by omega,show (Zbl tx l+1).toNat=(Zbl tx l).toNat+1 by omega,List.drop_take,show place.toNat+1 - ((Zbl tx l).toNat+1)=place.toNat - (Zbl tx l).toNat by omega,this]
theorem ZnM {l:List Int} {tx place:Int} (h0:0≤place) (h1:place≤Zbl tx l) (h2:Zbl tx l<l.length):(l.take (place+1).toNat++(l.take (Zbl tx l).toNat).drop place.toNat++l.drop (Zbl tx l+1).toNat).set place.toNat tx=(Zaf l tx place).1:=by
 unfold Zaf
 rw [if_neg (by omega),if_neg (by simp;omega)]
 have:=ZoK (l:=l) (i:=(Zbl tx l).toNat) (p:=place.toNat) (x:=tx) (by omega) (by omega)
 rw [Int.toNat_of_nonneg (by omega)] at this
 rw [show (place+1).toNat=place.toNat+1 by omega,show (Zbl tx l+1).toNat=(Zbl tx l).toNat+1 by omega,List.drop_take,this]
theorem Zoh (l:List Int) (tx place:Int):(Zaf l tx place).1.length≤l.length:=by
 unfold Zaf
 split
 · simp
 · split
   · simp
   · rename_i h1 h2
     have hr:=Zg9 tx l
     have h3:(l.eraseIdx (Zbl tx l).toNat).length=l.length - 1:=by rw [List.length_eraseIdx,if_pos (by omega)]
     show (ZmJ _ _ _).length≤_
     unfold ZmJ
     split
     · rw [List.length_append,List.length_cons,List.length_take,List.length_drop];omega
     · omega
theorem Zgy {now to:List Int} {x:Int} {i:Nat} (h:Go.Gm.nth now i=x):Zao now i (x :: to)=Zao now ((i+1:Nat):Int) to:=by
 rw [Zao,Int.toNat_natCast,if_pos h,Int.natCast_add];rfl
theorem Zjy {now to:List Int} {x:Int} {i:Nat} (h:¬ Go.Gm.nth now i=x):Zao now i (x :: to) = ⟨x,i⟩ :: Zao (Zaf now x i).1 ((i+1:Nat):Int) to:=by
 rw [Zao,Int.toNat_natCast,if_neg h,Int.natCast_add];rfl
theorem Zob (l:List Int) (tx place:Int) (hl:l.length≤1000000):FnP Tryz.prog 81 [.sl rInt l,.int .i64 tx,.int .i64 place] (.tup [.sl rInt (Zaf l tx place).1,.int .i64 (Zaf l tx place).2]):=by
 refine FnP.mk Tryz.func81 rfl Tryz.ntmps81 rfl ?_
 intro B a w F hB hfr hS
 have hll:=Sat.lenSl hS (i:=0) rfl
 have hxr:=Zg9 tx l
 have hxw:IntKind.wrap .i64 (Zbl tx l+1)=Zbl tx l+1:=ZA (by omega)
 refine wp_seq ?_
 refine Za hS (qC (qI qZ)) hB [7,6,2,1,0] [0] rfl rfl fun a w F hS=>Zb (wp_seq ?_)
 refine Za hS (qM rfl rfl (qM rfl rfl (qf (oP (Zla l tx) Tryz.func122 (Args.two .t .t)) r2 qz (qN rfl rfl qZ)))) hB [8,7,6,2,1,0] [0] rfl rfl fun a w F hS=>Zb (wp_seq (wp_block (wp_seq ?_)))
 refine Za hS (qM rfl rfl (qf (ZbC .t qi) r1 qz (qN rfl rfl qZ))) hB [13,8,7,6,2,1,0] [0] rfl rfl fun a w F hS=>Zb ?_
 refine Zd hS rfl (fun hc0=>?_) (fun hc0=>?_)
 ·skip
  have hix:Zbl tx l<0:=by simpa using hc0
  have hm:Zaf l tx place=([],3):=if_pos hix
  refine wp_seq ?_
  refine Za hS (qC (qI qZ)) hB [8,7,6,2,1,0] [0] rfl rfl fun a w F hS=>Zb (wp_ret (Zf (Ze ?_)))
  refine Zr hfr hS rfl (.tmp rfl (.tmp rfl .nil)) (.two (.trans .nilSl (.sl (by first | (rw [hm];done) | exact hm1))) (.int (by first | (rw [hm];done) | exact hm2)))
 have hix:0≤Zbl tx l:=by simp at hc0;omega
 refine wp_seq ?_
 refine Za hS (qM rfl rfl (qf (ZbC .t qi) r1 qz (qM rfl rfl (qm rfl rfl rfl rfl (qm rfl rfl rfl rfl (qk rfl (fun h=>ZaI Tryz.underlying39 (.w h)) r2 qz (qk rfl (fun h=>ZdO (.w h) (.w h)) r3 qz (qf (ZaC .t .t) r2 qz (qN rfl rfl qZ))))))))) hB [16,8,7,6,2,1,0] [0] rfl rfl fun a w F hS=>Zb ?_
 refine Zd hS rfl (fun hc1=>?_) (fun hc1=>?_)
 ·skip
  have hpl:¬ (0≤place∧place<l.length):=by simp at hc1;omega
  have hm:Zaf l tx place=([],1):=(if_neg (by omega)).trans (if_pos hpl)
  refine wp_seq ?_
  refine Za hS (qC (qI qZ)) hB [8,7,6,2,1,0] [0] rfl rfl fun a w F hS=>Zb (wp_ret (Zf (Ze ?_)))
  refine Zr hfr hS rfl (.tmp rfl (.tmp rfl .nil)) (.two (.trans .nilSl (.sl (by first | (rw [hm];done) | exact hm1))) (.int (by first | (rw [hm];done) | exact hm2)))
 have hpl:0≤place∧place<l.length:=by simp at hc1;omega
 have hpw:IntKind.wrap .i64 (place+1)=place+1:=ZA (by omega)
 have hm2:0=(Zaf l tx place).2:=by unfold Zaf;rw [if_neg (by omega),if_neg (by simp;omega)]
 refine wp_skip (Zh (Zb (wp_seq ?_)))
 replace hS:=hS.fresh 101 rfl
 refine Zc hS (qM rfl rfl (qf (Zbz 101 (Zc2 l hl) Tryz.func64 rfl (by kernel_rfl) (Args.one .t) Za3) r1 r1 (qN rfl rfl qZ))) hB [9,8,7,6,2,1,0] [101,0] (fun _=>rfl) (fun _=>rfl) fun τ a w F hS=>?_
 try dsimp only [RS.sub,SF.sub,CF.sub,csub,Anc.sub,List.map,rInt] at hS
 generalize τ 26=v26 at hS
 refine Zb (wp_seq (wp_seq ?_))
 refine Za hS (qM rfl rfl (qM rfl rfl (qL r2))) hB [29,9,8,7,6,2,1,0] [101,0] rfl rfl fun a w F hS=>Zb ?_
 refine Zd hS rfl (fun hc2=>?_) (fun hc2=>?_)
 ·skip
  have hip:Zbl tx l<place:=by simpa using hc2
  refine Zw hS (qM rfl rfl (qM rfl rfl (qM rfl rfl (qf (Zly 101 (.mk Tryz.underlying39 (by kernel_rfl)) .is .t .t (by first | omega | (rw [hxw,hpw];omega) | (rw [hpw];omega) | (rw [hxw];omega)) (by first | omega | (rw [hxw,hpw];omega) | (rw [hpw];omega) | (rw [hxw];omega)) (by first | omega | (rw [hxw,hpw];omega) | (rw [hpw];omega) | (rw [hxw];omega)) (by first | omega | (rw [hxw,hpw];omega) | (rw [hpw];omega) | (rw [hxw];omega))) r3 r1 (qM rfl rfl (qM rfl rfl (qp r1 (qM rfl rfl (qp r1 (qf (Zg7 (sz:=1) (.mk Tryz.underlying39 (by kernel_rfl)) (by intro x;rfl) .t .t .t (by first | omega | (rw [hxw,hpw];omega) | (rw [hpw];omega) | (rw [hxw];omega)) (by first | omega | (rw [hxw,hpw];omega) | (rw [hpw];omega) | (rw [hxw];omega)) (by first | omega | (rw [hxw,hpw];omega) | (rw [hpw];omega) | (rw [hxw];omega))) r3 qz (qf (o_copy_lh 101 Tryz.underlying39 (by kernel_rfl) (by intro x;rfl) .t .t (by first | omega | (rw [hxw,hpw];omega) | (rw [hpw];omega) | (rw [hxw];omega)) (by first | omega | (rw [hxw,hpw];omega) | (rw [hpw];omega) | (rw [hxw];omega)) (by first | omega | (rw [hxw,hpw];omega) | (rw [hpw];omega) | (rw [hxw];omega)) (by simp only [hxw,hpw,List.length_take,List.length_drop];omega)) r2 r1 qZ))))))))))) hB [9,7,6,2,1] [101,0] rfl rfl fun a w F hS=>?_
  try dsimp only [rInt] at hS
  rw [hxw,hpw] at hS
  obtain ⟨l2,hl2⟩:∃ l2,l2=l.take (Zbl tx l).toNat++(l.take (place+1).toNat).drop (Zbl tx l+1).toNat++l.drop place.toNat:=⟨_,rfl⟩
  rw [← hl2] at hS
  have hll2:l2.length=l.length:=by rw [hl2];simp only [List.length_append,List.length_take,List.length_drop];omega
  have hm1:l2.set place.toNat tx=(Zaf l tx place).1:=by rw [hl2];exact Znx (by omega) hip (by omega)
  refine Zb (wp_seq ?_)
  refine Za hS (qM rfl rfl (qM rfl rfl (qM rfl rfl (qf (o_indexAddr_row (sz:=1) 101 (.mk Tryz.underlying39 (by kernel_rfl)) .is .t (by omega) (by omega) (by rfl)) r2 r1 (qf (ZaP (R:=rInt) (sz:=1) (v:=tx) 101 .t (by intro x;rfl) (by omega) .t rfl one_int (by kernel_rfl)) r2 r1 qZ))))) hB [9,7,6] [101,0] rfl rfl fun a w F hS=>?_
  try simp only [Int.toNat_natCast] at hS
  refine Zb (wp_seq ?_)
  refine Za hS (qM rfl rfl (qN rfl rfl (qI qZ))) hB [7,6] [101,0] rfl rfl fun a w F hS=>Zb (wp_ret ?_)
  obtain ⟨F,hS⟩:=hS.give 101 6 rfl rfl
  refine Zr hfr hS rfl (.tmp rfl (.tmp rfl .nil)) (.two (.sl (by first | (rw [hm];done) | exact hm1)) (.int (by first | (rw [hm];done) | exact hm2)))
 have hip:place≤Zbl tx l:=by simp at hc2;omega
 refine Zw hS (qM rfl rfl (qM rfl rfl (qp r1 (qM rfl rfl (qp r1 (qf (Zly 101 (.mk Tryz.underlying39 (by kernel_rfl)) .is .t .t (by first | omega | (rw [hxw,hpw];omega) | (rw [hpw];omega) | (rw [hxw];omega)) (by first | omega | (rw [hxw,hpw];omega) | (rw [hpw];omega) | (rw [hxw];omega)) (by first | omega | (rw [hxw,hpw];omega) | (rw [hpw];omega) | (rw [hxw];omega)) (by first | omega | (rw [hxw,hpw];omega) | (rw [hpw];omega) | (rw [hxw];omega))) r3 r1 (qM rfl rfl (qM rfl rfl (qM rfl rfl (qf (Zg7 (sz:=1) (.mk Tryz.underlying39 (by kernel_rfl)) (by intro x;rfl) .t .t .t (by first | omega | (rw [hxw,hpw];omega) | (rw [hpw];omega) | (rw [hxw];omega)) (by first | omega | (rw [hxw,hpw];omega) | (rw [hpw];omega) | (rw [hxw];omega)) (by first | omega | (rw [hxw,hpw];omega) | (rw [hpw];omega) | (rw [hxw];omega))) r3 qz (qf (o_copy_lh 101 Tryz.underlying39 (by kernel_rfl) (by intro x;rfl) .t .t (by first | omega | (rw [hxw,hpw];omega) | (rw [hpw];omega) | (rw [hxw];omega)) (by first | omega | (rw [hxw,hpw];omega) | (rw [hpw];omega) | (rw [hxw];omega)) (by first | omega | (rw [hxw,hpw];omega) | (rw [hpw];omega) | (rw [hxw];omega)) (by simp only [hxw,hpw,List.length_take,List.length_drop];omega)) r2 r1 qZ))))))))))) hB [9,7,6,2,1] [101,0] rfl rfl fun a w F hS=>?_
 try dsimp only [rInt] at hS
 rw [hxw,hpw] at hS
 obtain ⟨l2,hl2⟩:∃ l2,l2=l.take (place+1).toNat++(l.take (Zbl tx l).toNat).drop place.toNat++l.drop (Zbl tx l+1).toNat:=⟨_,rfl⟩
 rw [← hl2] at hS
 have hll2:l2.length=l.length:=by rw [hl2];simp only [List.length_append,List.length_take,List.length_drop];omega
 have hm1:l2.set place.toNat tx=(Zaf l tx place).1:=by rw [hl2];exact ZnM (by omega) hip (by omega)
 refine Zb (wp_seq ?_)
 refine Za hS (qM rfl rfl (qM rfl rfl (qM rfl rfl (qf (o_indexAddr_row (sz:=1) 101 (.mk Tryz.underlying39 (by kernel_rfl)) .is .t (by omega) (by omega) (by rfl)) r2 r1 (qf (ZaP (R:=rInt) (sz:=1) (v:=tx) 101 .t (by intro x;rfl) (by omega) .t rfl one_int (by kernel_rfl)) r2 r1 qZ))))) hB [9,7,6] [101,0] rfl rfl fun a w F hS=>?_
 try simp only [Int.toNat_natCast] at hS
 refine Zb (wp_seq ?_)
 refine Za hS (qM rfl rfl (qN rfl rfl (qI qZ))) hB [7,6] [101,0] rfl rfl fun a w F hS=>Zb (wp_ret ?_)
 obtain ⟨F,hS⟩:=hS.give 101 6 rfl rfl
 refine Zr hfr hS rfl (.tmp rfl (.tmp rfl .nil)) (.two (.sl (by first | (rw [hm];done) | exact hm1)) (.int (by first | (rw [hm];done) | exact hm2)))
def Z0 (g:HistD) (key:Int) (rule:List Int→List Int×Int):HistD×Int:=if ¬ Zx g then (zeroH,5) else if isK OrdD.key key g.orders=false then (zeroH,3) else if (rule (Go.Gm.nth g.orders (lowK OrdD.key key g.orders)).txs).2≠0 then (zeroH,(rule (Go.Gm.nth g.orders (lowK OrdD.key key g.orders)).txs).2) else (⟨g.txs,g.orders.set (lowK OrdD.key key g.orders) ⟨(Go.Gm.nth g.orders (lowK OrdD.key key g.orders)).key,(rule (Go.Gm.nth g.orders (lowK OrdD.key key g.orders)).txs).1⟩⟩,0)
def ZeR (o:OrdD) (l:List Int):List Int×Int:=if l.Perm o.txs then (o.txs,0) else ([],8)
def ZcZ (g:HistD) (o:OrdD):HistD×Int:=Z0 g o.key (ZeR o)
def Zmp (g:HistD) (key id place:Int):HistD×Int:=Z0 g key fun l=>Zaf l id place
theorem ZlJ (g : HistD) (key : Int) (rule : List Int → List Int × Int) (f : FuncId) (fn : Func) (cps : List PV) (hf : Tryz.prog.funcs[f]? = some fn) (hb : fn.body.isSome = true) (hnn : (fn.name == "runtime.NumGoroutine") = false) (hw : ∀ l : List Int, l.length ≤ 1000 → FnP Tryz.prog f (.sl rInt l :: cps) (.tup [.sl rInt (rule l).1, .int .i64 (rule l).2])) (hs : Za0 g) : FnP Tryz.prog 100 [.agg (Zo g), .int .i64 key, .clos f cps] (.tup [.agg (Zo (Z0 g key rule).1), .int .i64 (Z0 g key rule).2]) := by
 refine FnP.mk Tryz.func100 rfl Tryz.ntmps100 rfl ?_
 intro B a w F hB hfr hS
 have hso:=hs.2.1
 refine wp_seq ?_
 refine Zc hS (qx 101 r1 (qf (oH [.slice none 0 0,.slice none 0 0] 102) trivial qz (qI qZ))) hB [7,6,3,2,1] [102,101,0] (fun _=>rfl) (fun _=>rfl) fun τ a w F hS=>?_
 try dsimp only [RS.sub,SF.sub,CF.sub,csub,Anc.sub,List.map,zCF,Zo,rTx,Zz,ZQ,rInt,rOp] at hS
 generalize τ 3=v3 at hS
 generalize τ 6=v6 at hS
 refine Zb (wp_seq (wp_seq ?_))
 refine Za hS (qe 2 101 r1 r1 (qf (oP (Zd4 g hs) Tryz.func7 (Args.one (.pagg .t))) r1 qz (qf (o_not .t) r1 qz qZ))) hB [15,7,6,3,2,1] [102,101,0] rfl rfl fun a w F hS=>Zb ?_
 refine Zd hS rfl (fun hc0=>?_) (fun hc0=>?_)
 ·skip
  have hr:¬ Zx g:=by simpa using hc0
  have hg:Z0 g key rule=(zeroH,5):=by unfold Z0;rw [if_pos hr]
  refine wp_seq ?_
  refine Za hS (qf (oB [] [.slice none 0 0,.slice none 0 0] [(0,1),(1,1)] .nil) trivial qz (qs 2 102 r2 r1 (qI qZ))) hB [7,6,3,2,1] [102,101,0] rfl rfl fun a w F hS=>Zb (wp_ret (Ze ?_))
  refine Zr hfr hS rfl (.cl 102 true 2 rfl rfl (.tmp rfl .nil)) (.two (by rw [hg];first | exact .aggU rfl rfl | exact .aggLe rfl ⟨PVLe.nilSl,PVLe.nilSl,trivial⟩) (.int (by rw [hg])))
 have hr:Zx g:=by simpa using hc0
 have hrr:=Zq hr
 refine wp_skip (Zb (wp_seq ?_))
 refine Za hS (qg 1 101 r1 r1 (qa 101 r1 r1 (qM rfl rfl (qf (oP (Zsu g.orders key (by omega) hrr.2 128 Tryz.f128 [] Tryz.func128 rfl (by kernel_rfl) (fun x=>Zm1 x key)) Tryz.func127 (Args.three .t .t (.conv .f (Ent.fnClos)))) r2 qz (qM rfl rfl (qf (o_extract .t rfl) r1 qz (qf (o_extract .t rfl) r1 qz (qN rfl rfl (qN rfl rfl qZ))))))))) hB [9,8,7,6,3,2] [102,101,0] rfl rfl fun a w F hS=>Zb (wp_seq (wp_seq ?_))
 refine Za hS (qM rfl rfl (qf (o_not .t) r1 qz qZ)) hB [25,8,7,6,3,2] [102,101,0] rfl rfl fun a w F hS=>Zb ?_
 refine Zd hS rfl (fun hc1=>?_) (fun hc1=>?_)
 ·skip
  have hik:isK OrdD.key key g.orders=false:=by simpa using hc1
  have hg:Z0 g key rule=(zeroH,3):=by unfold Z0;rw [if_neg (Decidable.not_not.2 hr),if_pos hik]
  refine wp_seq ?_
  refine Za hS (qf (oB [] [.slice none 0 0,.slice none 0 0] [(0,1),(1,1)] .nil) trivial qz (qs 2 102 r2 r1 (qI qZ))) hB [8,7,6,3,2] [102,101,0] rfl rfl fun a w F hS=>Zb (wp_ret (Ze ?_))
  refine Zr hfr hS rfl (.cl 102 true 2 rfl rfl (.tmp rfl .nil)) (.two (by rw [hg];first | exact .aggU rfl rfl | exact .aggLe rfl ⟨PVLe.nilSl,PVLe.nilSl,trivial⟩) (.int (by rw [hg])))
 have hik:isK OrdD.key key g.orders=true:=by simpa using hc1
 have hlk:=(Zdk hrr.2 hik).1
 have hnl:(Go.Gm.nth g.orders (lowK OrdD.key key g.orders)).txs.length≤1000:=hs.2.at hlk
 refine wp_skip (Zb (wp_seq ?_))
 refine Za hS (qM rfl rfl (qg 1 101 r1 r1 (qa 101 r1 r1 (qM rfl rfl (qy 2 Tryz.underlying23 r2 (qf (oG 1 .t) r1 qz (qf (oR false 1 .t) r1 qz (qf (ZM (avs:=[.sl rInt (Go.Gm.nth g.orders (lowK OrdD.key key g.orders)).txs]) .t (hw (Go.Gm.nth g.orders (lowK OrdD.key key g.orders)).txs hnl) hf hb hnn (Args.one .t)) r2 qz (qM rfl rfl (qf (o_extract .t rfl) r1 qz (qf (o_extract .t rfl) r1 qz (qN rfl rfl (qN rfl rfl qZ))))))))))))) hB [11,10,8,7,6,3] [102,101,0] rfl rfl fun a w F hS=>?_
 try simp only [Int.toNat_natCast] at hS
 refine Zb (wp_seq (wp_seq ?_))
 refine Za hS (qM rfl rfl (qf (o_neq .t qi) r1 qz qZ)) hB [39,11,10,8,7,6,3] [102,101,0] rfl rfl fun a w F hS=>Zb ?_
 refine Zd hS rfl (fun hc2=>?_) (fun hc2=>?_)
 ·skip
  have hrl:(rule (Go.Gm.nth g.orders (lowK OrdD.key key g.orders)).txs).2≠0:=by simpa using hc2
  have hg:Z0 g key rule=(zeroH,(rule (Go.Gm.nth g.orders (lowK OrdD.key key g.orders)).txs).2):=by unfold Z0;rw [if_neg (Decidable.not_not.2 hr),if_neg (by rw [hik];simp),if_pos hrl]
  refine wp_seq ?_
  refine Za hS (qf (oB [] [.slice none 0 0,.slice none 0 0] [(0,1),(1,1)] .nil) trivial qz (qM rfl rfl (qs 2 102 r2 r1 (qN rfl rfl qZ)))) hB [10,8,7,6,3] [102,101,0] rfl rfl fun a w F hS=>Zb (wp_ret (Ze ?_))
  refine Zr hfr hS rfl (.cl 102 true 2 rfl rfl (.tmp rfl .nil)) (.two (by rw [hg];first | exact .aggU rfl rfl | exact .aggLe rfl ⟨PVLe.nilSl,PVLe.nilSl,trivial⟩) (.int (by rw [hg])))
 have hg:Z0 g key rule=(⟨g.txs,g.orders.set (lowK OrdD.key key g.orders) (⟨(Go.Gm.nth g.orders (lowK OrdD.key key g.orders)).key,(rule (Go.Gm.nth g.orders (lowK OrdD.key key g.orders)).txs).1⟩:OrdD)⟩,0):=by unfold Z0;rw [if_neg (Decidable.not_not.2 hr),if_neg (by rw [hik];simp),if_neg (by simpa using hc2)]
 refine wp_skip (Zb (wp_seq ?_))
 replace hS:=hS.fresh 103 rfl
 refine Zc hS (qe 2 101 r1 r1 (qf (Ze2 103 (Zho g hs) Tryz.func93 rfl (by kernel_rfl) (Args.one (.pagg .t))) r1 r1 (qf (oH [.slice none 0 0,.slice none 0 0] 104) trivial qz (qf (oA 2 104 .same (.conv .t (Ent.fnAgg (.fn (.fn .nil))))) r2 r1 qZ)))) hB [12,10,8,7,6] [104,103,102,101,0] (fun _=>rfl) (fun _=>rfl) fun τ a w F hS=>?_
 try dsimp only [RS.sub,SF.sub,CF.sub,csub,Anc.sub,List.map,Zg,xL,xM,Nat.reduceAdd,xD,xE,xT,xU,xC,xN,zCF,ldSF,Zo,rTx,Zz,ZQ,rInt,rOp] at hS
 generalize τ 12=v12 at hS
 generalize τ 43=v43 at hS
 replace hS:=hS.turn 103 rfl (r':=RS.hp (HP.star [.ob (.val (cellN 0 v43)) (Zu 38 3 rTx g.txs),.ob (.val (cellN 1 v43)) (Zu 41 2 Zz g.orders)])) (fun _ _ _ _ h=>h)
 obtain ⟨F,hS⟩:=hS.peel 103 70 rfl rfl
 obtain ⟨F,hS⟩:=hS.peel 103 71 rfl rfl
 obtain ⟨F,hS⟩:=hS.nm [12,10,8,7,6] [104,102,101,71,70,0] rfl rfl
 generalize cellN 0 v43=va at hS
 generalize cellN 1 v43=vb at hS
 refine Zb (wp_seq ?_)
 refine Za hS (qg 1 104 r1 r1 (qa 104 r1 r1 (qM rfl rfl (qM rfl rfl (qf (o_indexAddr_row (sz:=2) 71 (.mk Tryz.underlying23 (by kernel_rfl)) .is .t (by omega) (by omega) (by rfl)) r2 r1 (qf (Zag (off:=1) (sz:=2) 71 .t (by omega) (by kernel_rfl) (by rfl)) r1 r1 (qf (ZcN (R:=Zz) (sz:=2) (off:=1) (v':=(⟨(Go.Gm.nth g.orders (lowK OrdD.key key g.orders)).key,(rule (Go.Gm.nth g.orders (lowK OrdD.key key g.orders)).txs).1⟩:OrdD)) 71 .t (by intro x;rfl) (by omega) (by decide) .t one_sl rfl (by kernel_rfl)) r2 r1 qZ))))))) hB [12,7,6] [104,102,101,71,70,0] rfl rfl fun a w F hS=>?_
 try simp only [Int.toNat_natCast] at hS
 refine Zb (wp_seq ?_)
 obtain ⟨F,hS⟩:=hS.giveCell 70 104 0 rfl rfl rfl rfl rfl
 try dsimp only [List.set] at hS
 obtain ⟨F,hS⟩:=hS.nm [12,7,6] [104,102,101,71,0] rfl rfl
 obtain ⟨F,hS⟩:=hS.giveCell 71 104 1 rfl rfl rfl rfl rfl
 try dsimp only [List.set] at hS
 obtain ⟨F,hS⟩:=hS.nm [12,7,6] [104,102,101,0] rfl rfl
 refine Za hS (qe 2 104 r1 r1 (qs 2 102 r2 r1 (qI qZ))) hB [7,6] [104,102,101,0] rfl rfl fun a w F hS=>Zb (wp_ret ?_)
 refine Zr hfr hS rfl (.cl 102 true 2 rfl rfl (.tmp rfl .nil)) (.two (by rw [hg];first | exact .aggU rfl rfl | exact .aggLe rfl ⟨PVLe.nilSl,PVLe.nilSl,trivial⟩) (.int (by rw [hg])))
theorem ZlT (l:List Int) (o:OrdD) (hl:l.length≤1000) (ho:o.txs.length≤1000):FnP Tryz.prog 101 [.sl rInt l,.ref (Zz o)] (.tup [.sl rInt (ZeR o l).1,.int .i64 (ZeR o l).2]):=by
 refine FnP.mk Tryz.func101 rfl Tryz.ntmps101 rfl ?_
 intro B a w F hB hfr hS
 refine wp_seq ?_
 refine Za hS (qC (qI qZ)) hB [4,3,1,0] [0] rfl rfl fun a w F hS=>Zb (wp_seq (wp_seq ?_))
 refine Za hS (qM rfl rfl (qf (oG 1 .t) r1 qz (qf (oR false 1 .t) r1 qz (qf (oP (Zns l o.txs (by omega) (by omega)) Tryz.func26 (Args.two .t .t)) r2 qz (qf (o_not .t) r1 qz qZ))))) hB [9,4,3,1] [0] rfl rfl fun a w F hS=>Zb ?_
 refine Zd hS rfl (fun hc0=>?_) (fun hc0=>?_)
 ·skip
  have hg:ZeR o l=([],8):=by unfold ZeR;rw [if_neg (by simpa using hc0)]
  refine wp_seq ?_
  refine Za hS (qC (qI qZ)) hB [4,3,1] [0] rfl rfl fun a w F hS=>Zb (wp_ret (Ze ?_))
  refine Zr hfr hS rfl (.tmp rfl (.tmp rfl .nil)) (.two (.trans .nilSl (.sl (by rw [hg]))) (.int (by rw [hg])))
 have hg:ZeR o l=(o.txs,0):=by unfold ZeR;rw [if_pos (by simpa using hc0)]
 refine wp_skip (Zb (wp_seq ?_))
 refine Za hS (qf (oG 1 .t) r1 qz (qf (oR false 1 .t) r1 qz (qf (oP (ZiA o.txs (by omega)) Tryz.func64 (Args.one .t)) r1 qz (qN rfl rfl (qI qZ))))) hB [4,3] [0] rfl rfl fun a w F hS=>Zb (wp_ret ?_)
 refine Zr hfr hS rfl (.tmp rfl (.tmp rfl .nil)) (.two (.sl (by rw [hg])) (.int (by rw [hg])))
theorem ZrA (l:List Int) (id place:Int) (hl:l.length≤1000):FnP Tryz.prog 102 [.sl rInt l,.ref [.int .i64 id],.ref [.int .i64 place]] (.tup [.sl rInt (Zaf l id place).1,.int .i64 (Zaf l id place).2]):=by
 refine FnP.mk Tryz.func102 rfl Tryz.ntmps102 rfl ?_
 intro B a w F hB hfr hS
 refine wp_seq ?_
 refine Za hS (qC (qI qZ)) hB [5,4,2,1,0] [0] rfl rfl fun a w F hS=>Zb (wp_seq ?_)
 refine Za hS (qM rfl rfl (qf (oR false 1 .t) r1 qz (qf (oR false 1 .t) r1 qz (qf (oP (Zob l id place (by omega)) Tryz.func81 (Args.three .t .t .t)) r3 qz (qf (o_extract .t rfl) r1 qz (qf (o_extract .t rfl) r1 qz (qN rfl rfl (qN rfl rfl qZ)))))))) hB [5,4] [0] rfl rfl fun a w F hS=>Zb (wp_ret ?_)
 refine Zr hfr hS rfl (.tmp rfl (.tmp rfl .nil)) (.two .refl .refl)
theorem ZmI (g:HistD) (o:OrdD) (hs:Za0 g) (ho:o.txs.length≤1000):FnP Tryz.prog 54 [.agg (Zo g),.agg (Zz o)] (.tup [.agg (Zo (ZcZ g o).1),.int .i64 (ZcZ g o).2]):=by
 refine FnP.mk Tryz.func54 rfl Tryz.ntmps54 rfl ?_
 intro B a w F hB hfr hS
 refine wp_seq ?_
 refine Zc hS (qx 101 r1 (qx 102 r1 (qf (oH [.slice none 0 0,.slice none 0 0] 103) trivial qz (qI qZ)))) hB [5,4,3,2] [103,102,101,0] (fun _=>rfl) (fun _=>rfl) fun τ a w F hS=>?_
 try dsimp only [RS.sub,SF.sub,CF.sub,csub,Anc.sub,List.map,zCF,Zo,rTx,Zz,ZQ,rInt,rOp] at hS
 generalize τ 2=v2 at hS
 generalize τ 3=v3 at hS
 generalize τ 4=v4 at hS
 refine Zb (wp_seq ?_)
 refine ZcW 3 hS (by kernel_rfl) (cG rfl (oL true 2 101 .is) r1 r1 (cG rfl (oF 0 102 .is) r1 r1 (cG rfl (oL false 1 102 .adr) r1 r1 ZP.nil))) (by kernel_rfl) (by rw [hB];kernel_rfl) fun a w F hS=>?_
 obtain ⟨F,hS⟩:=hS.nm [8,6,5,4,3] [103,102,101,0] rfl rfl
 try dsimp only [List.map,xD,xE,xT,xU,ldSF,Zo,rTx,Zz,ZQ,rInt,rOp] at hS
 obtain ⟨F,hS⟩:=hS.giveRef 102 3 rfl rfl rfl
 obtain ⟨F,hS⟩:=hS.nm [8,6,5,4,3] [103,101,0] rfl rfl
 try dsimp only [Go.Gm.unCF] at hS
 refine Zd0 hS (by kernel_rfl) (cG rfl (ZbU (Args.one .t)) r1 trivial (cG rfl (oP (ZlJ g o.key (ZeR o) 101 Tryz.f101 [.ref (Zz o)] Tryz.func101 rfl (by kernel_rfl) (fun l hl=>ZlT l o hl ho) hs) Tryz.func100 (Args.three (.pagg .t) .t .t)) r3 trivial (cG rfl (o_extract .t rfl) r1 trivial (cG rfl (o_extract .t rfl) r1 trivial (cG rfl (oA 2 103 .is (.conv .t .agg)) r2 r1 (cG rfl (oN .t) r1 trivial ZP.nil)))))) (by kernel_rfl) (by rw [hB];kernel_rfl) fun a w F hS=>?_
 obtain ⟨F,hS⟩:=hS.nm [5,4] [103,101,0] rfl rfl
 try dsimp only [List.map,Zg,xL,xM,Nat.reduceAdd,xD,xE,xT,xU,xC,xN,zCF,Zo,rTx,Zz,ZQ,rInt,rOp] at hS
 refine Zb (wp_ret ?_)
 refine Zr hfr hS rfl (.cl 103 true 2 rfl rfl (.tmp rfl .nil)) (.two (.aggU rfl rfl) .refl)
theorem ZrQ (g:HistD) (key id place:Int) (hs:Za0 g):FnP Tryz.prog 55 [.agg (Zo g),.int .i64 key,.int .i64 id,.int .i64 place] (.tup [.agg (Zo (Zmp g key id place).1),.int .i64 (Zmp g key id place).2]):=by
 refine FnP.mk Tryz.func55 rfl Tryz.ntmps55 rfl ?_
 intro B a w F hB hfr hS
 refine wp_seq ?_
 refine Zc hS (qx 101 r1 (qf (ZkG 102 .t one_int) r1 qz (qf (ZkG 103 .t one_int) r1 qz (qf (oH [.slice none 0 0,.slice none 0 0] 104) trivial qz (qI qZ))))) hB [9,8,7,6,4,1] [104,103,102,101,0] (fun _=>rfl) (fun _=>rfl) fun τ a w F hS=>?_
 try dsimp only [RS.sub,SF.sub,CF.sub,csub,Anc.sub,List.map,zCF,Zo,rTx,Zz,ZQ,rInt,rOp] at hS
 generalize τ 4=v4 at hS
 generalize τ 6=v6 at hS
 generalize τ 7=v7 at hS
 generalize τ 8=v8 at hS
 refine Zb (wp_seq ?_)
 refine ZcW 2 hS (by kernel_rfl) (cG rfl (oL true 2 101 .is) r1 r1 (cG rfl (oM .t) r1 trivial ZP.nil)) (by kernel_rfl) (by rw [hB];kernel_rfl) fun a w F hS=>?_
 obtain ⟨F,hS⟩:=hS.nm [11,10,9,8,7,6] [104,103,102,101,0] rfl rfl
 try dsimp only [List.map,xD,xE,xT,xU,ldSF,Zo,rTx,Zz,ZQ,rInt,rOp] at hS
 obtain ⟨F,hS⟩:=hS.giveRef 102 6 rfl rfl rfl
 obtain ⟨F,hS⟩:=hS.nm [11,10,9,8,7,6] [104,103,101,0] rfl rfl
 try dsimp only [Go.Gm.unCF] at hS
 obtain ⟨F,hS⟩:=hS.giveRef 103 7 rfl rfl rfl
 obtain ⟨F,hS⟩:=hS.nm [11,10,9,8,7,6] [104,101,0] rfl rfl
 try dsimp only [Go.Gm.unCF] at hS
 refine Zd0 hS (by kernel_rfl) (cG rfl (ZbU (Args.two .t .t)) r2 trivial (cG rfl (oP (ZlJ g key (fun l=>Zaf l id place) 102 Tryz.f102 [.ref [.int .i64 id],.ref [.int .i64 place]] Tryz.func102 rfl (by kernel_rfl) (fun l hl=>ZrA l id place hl) hs) Tryz.func100 (Args.three (.pagg .t) .t .t)) r3 trivial (cG rfl (o_extract .t rfl) r1 trivial (cG rfl (o_extract .t rfl) r1 trivial (cG rfl (oA 2 104 .is (.conv .t .agg)) r2 r1 (cG rfl (oN .t) r1 trivial ZP.nil)))))) (by kernel_rfl) (by rw [hB];kernel_rfl) fun a w F hS=>?_
 obtain ⟨F,hS⟩:=hS.nm [9,8] [104,101,0] rfl rfl
 try dsimp only [List.map,Zg,xL,xM,Nat.reduceAdd,xD,xE,xT,xU,xC,xN,zCF,Zo,rTx,Zz,ZQ,rInt,rOp] at hS
 refine Zb (wp_ret ?_)
 refine Zr hfr hS rfl (.cl 104 true 2 rfl rfl (.tmp rfl .nil)) (.two (.aggU rfl rfl) .refl)
theorem Zr0 (u v:TxD):((decide (u.id=v.id) && (u.done == v.done)) && decide (u.ops=v.ops))=decide (u=v):=by
 cases u;cases v
 rw [Bool.eq_iff_iff]
 simp [and_assoc]
theorem ZrL (u v:OrdD):(decide (u.key=v.key) && decide (u.txs=v.txs))=decide (u=v):=by
 cases u;cases v
 rw [Bool.eq_iff_iff]
 simp
theorem Zle (u v:HistD):(decide (u.txs=v.txs) && decide (u.orders=v.orders))=decide (u=v):=by
 cases u;cases v
 rw [Bool.eq_iff_iff]
 simp
theorem Zpc (u v:TxD):FnP Tryz.prog 56 [.agg (rTx u),.agg (rTx v)] (.bool (decide (u=v))):=by
 refine FnP.mk Tryz.func56 rfl Tryz.ntmps56 rfl ?_
 intro B a w F hB hfr hS
 refine wp_seq ?_
 refine Zc hS (qx 101 r1 (qx 102 r1 qB)) hB [4,3,2] [102,101,0] (fun _=>rfl) (fun _=>rfl) fun τ a w F hS=>?_
 try dsimp only [RS.sub,SF.sub,CF.sub,csub,Anc.sub,List.map,zCF] at hS
 generalize τ 2=v2 at hS
 generalize τ 3=v3 at hS
 refine Zb (wp_seq ?_)
 refine Za hS (qg 0 101 r1 r1 (qa 101 r1 r1 (qg 0 102 r1 r1 (qa 102 r1 r1 (qf (o_eql .t .t) r2 qz (qM rfl rfl (qv 1 101 rfl r2 r1 (qw 101 rfl r2 r1 (qv 1 102 rfl r2 r1 (qw 102 rfl r2 r1 (qk rfl (fun h=>Zi3 Tryz.underlying4 (.w h) (.w h)) r3 qz (qf (ZI .t .t) r2 qz (qM rfl rfl (qv 2 101 rfl r2 r1 (qw 101 rfl r2 r1 (qv 2 102 rfl r2 r1 (qw 102 rfl r2 r1 (qk rfl (fun h=>oP (ZnW u.ops v.ops) Tryz.func103 (Args.two (.w h) (.w h))) r3 qz (qf (ZI .t .t) r2 qz (qN rfl rfl qZ)))))))))))))))))))) hB [4] [0] rfl rfl fun a w F hS=>Zb (wp_ret ?_)
 refine Zm hfr hS rfl rfl rfl (.bool (Zr0 u v))
theorem Zj1 (u v:OrdD):FnP Tryz.prog 57 [.agg (Zz u),.agg (Zz v)] (.bool (decide (u=v))):=by
 refine FnP.mk Tryz.func57 rfl Tryz.ntmps57 rfl ?_
 intro B a w F hB hfr hS
 refine wp_seq ?_
 refine Zc hS (qx 101 r1 (qx 102 r1 qB)) hB [4,3,2] [102,101,0] (fun _=>rfl) (fun _=>rfl) fun τ a w F hS=>?_
 try dsimp only [RS.sub,SF.sub,CF.sub,csub,Anc.sub,List.map,zCF] at hS
 generalize τ 2=v2 at hS
 generalize τ 3=v3 at hS
 refine Zb (wp_seq ?_)
 refine Za hS (qg 0 101 r1 r1 (qa 101 r1 r1 (qg 0 102 r1 r1 (qa 102 r1 r1 (qf (o_eql .t .t) r2 qz (qM rfl rfl (qv 1 101 rfl r2 r1 (qw 101 rfl r2 r1 (qv 1 102 rfl r2 r1 (qw 102 rfl r2 r1 (qk rfl (fun h=>oP (ZgK u.txs v.txs) Tryz.func21 (Args.two (.w h) (.w h))) r3 qz (qf (ZI .t .t) r2 qz (qN rfl rfl qZ))))))))))))) hB [4] [0] rfl rfl fun a w F hS=>Zb (wp_ret ?_)
 refine Zm hfr hS rfl rfl rfl (.bool (ZrL u v))
theorem PVs.lenAt {α:Type} {R:α→List PV} {l:List α} {v:Value} {w:World} {y:Ys} (h:(PV.sl R l).p v w y):l.length≤9223372036854775807:=by
 obtain ⟨_,cap,_,h1,h2,_⟩:=h
 unfold maxLen at h2
 omega
theorem Sat.lenHist {B:Zbf} {E:En} {a:Act} {w:World} {F:Fp} (h:Sat B E a w F) {i:Nat} {u:HistD} (hl:Go.Gm.look E.s i=some (SF.pv (PV.agg (Zo u)))):u.txs.length≤9223372036854775807∧u.orders.length≤9223372036854775807:=by
 obtain ⟨vs,_,hp⟩:=h.s i _ hl
 match vs,hp with
 | [x,y],hp=>exact ⟨PVs.lenAt hp.1.2,PVs.lenAt hp.2.1.2⟩
theorem ZlV (u v:HistD):FnP Tryz.prog 20 [.agg (Zo u),.agg (Zo v)] (.bool (decide (u=v))):=by
 refine FnP.mk Tryz.func20 rfl Tryz.ntmps20 rfl ?_
 intro B a w F hB hfr hS
 obtain ⟨hxl,hyl⟩:=Sat.lenHist hS (i:=0) rfl
 refine wp_seq ?_
 refine Zc hS (qx 101 r1 (qx 102 r1 qB)) hB [4,3,2] [102,101,0] (fun _=>rfl) (fun _=>rfl) fun τ a w F hS=>?_
 try dsimp only [RS.sub,SF.sub,CF.sub,csub,Anc.sub,List.map,zCF] at hS
 generalize τ 2=v2 at hS
 generalize τ 3=v3 at hS
 refine Zb (wp_seq (wp_seq ?_))
 refine Za hS (qg 0 101 r1 r1 (qa 101 r1 r1 (qu Tryz.underlying22 r1 (qg 0 102 r1 r1 (qa 102 r1 r1 (qu Tryz.underlying22 r1 (qf (o_neq .t .t) r2 qz (qM rfl rfl (qv 1 101 rfl r2 r1 (qw 101 rfl r2 r1 (qk rfl (fun h=>ZaI Tryz.underlying23 (.w h)) r2 qz (qv 1 102 rfl r2 r1 (qw 102 rfl r2 r1 (qk rfl (fun h=>ZaI Tryz.underlying23 (.w h)) r2 qz (qk rfl (fun h=>o_neq (.w h) (.w h)) r3 qz (qf (ZaC .t .t) r2 qz qZ)))))))))))))))) hB [22,4,3,2] [102,101,0] rfl rfl fun a w F hS=>?_
 skip
 refine Zb ?_
 refine Zd hS rfl (fun hc0=>?_) (fun hc0=>?_)
 ·skip
  have hg:false=decide (u=v):=by
    rw [eq_comm,decide_eq_false_iff_not]
    intro h
    subst h
    simp at hc0
  refine wp_seq ?_
  refine Za hS qB hB [4,3,2] [102,101,0] rfl rfl fun a w F hS=>Zb (wp_ret (Ze ?_))
  refine Zm hfr hS rfl rfl rfl (.bool hg)
 have hTl:u.txs.length=v.txs.length:=by simp at hc0;omega
 have hOl:u.orders.length=v.orders.length:=by simp at hc0;omega
 refine wp_skip (Zb (wp_seq (wp_seq ?_)))
 refine Za hS (qg 0 101 r1 r1 (qa 101 r1 r1 (qu Tryz.underlying22 r1 (qJ qZ)))) hB [26,25,4,3,2] [102,101,0] rfl rfl fun a w F hS=>Zb (wp_block ?_)
 obtain ⟨F,hS⟩:=hS.nm [26,25,3,2] [102,101,0] rfl rfl
 refine ZC (σ:=Nat) (fun s=>(⟨[(2,.pv (.is v2)),(3,.pv (.is v3)),(25,.pv (.int .i64 u.txs.length)),(26,.pv (.int .i64 s))],[(0,frame B),(101,.pt (.val v2) 25 [.pv (.sl rTx u.txs),.pv (.sl Zz u.orders)]),(102,.pt (.val v3) 25 [.pv (.sl rTx v.txs),.pv (.sl Zz v.orders)])]⟩:En)) (fun s=>s≤u.txs.length ∧ ∀ j,j<s→Go.Gm.nth u.txs j=Go.Gm.nth v.txs j) (fun s=>u.txs.length - s) 0 hS ⟨Nat.zero_le _,fun j hj=>absurd hj (Nat.not_lt_zero j)⟩ ?_
 clear hS;intro i a w F hC hS
 try dsimp only at hC
 try dsimp only at hS
 obtain ⟨hi,hq⟩:=hC
 refine wp_seq ?_
 refine Za hS (qL r2) hB [27,26,25,3,2] [102,101,0] rfl rfl fun a w F hS=>Zb (wp_seq ?_)
 refine Zd hS rfl (fun hc1=>?_) (fun hc1=>?_)
 ·skip
  have hil:i<u.txs.length:=by simp at hc1;omega
  refine wp_skip (Zb (wp_seq (wp_block (wp_seq ?_))))
  refine Za hS (qM rfl rfl (qN rfl rfl qZ)) hB [26,25,5,3,2] [102,101,0] rfl rfl fun a w F hS=>Zb (wp_seq ?_)
  refine Zw hS (qg 0 101 r1 r1 (qa 101 r1 r1 (qM rfl rfl (qy 3 Tryz.underlying22 r2 (qf (oR true 3 .t) r1 qz (qg 0 102 r1 r1 (qa 102 r1 r1 (qM rfl rfl (qy 3 Tryz.underlying22 r2 (qf (oR true 3 .t) r1 qz (qf (oP (Zpc (Go.Gm.nth u.txs (i:Int).toNat) (Go.Gm.nth v.txs (i:Int).toNat)) Tryz.func56 (Args.two (.pagg .t) (.pagg .t))) r2 qz (qf (o_not .t) r1 qz qZ)))))))))))) hB [40,26,25,3,2] [102,101,0] rfl rfl fun a w F hS=>?_
  try dsimp only [List.map,xD,xE,xT,xU,ldSF] at hS
  refine Zb ?_
  refine Zd hS rfl (fun hc2=>?_) (fun hc2=>?_)
  ·skip
   have hg:false=decide (u=v):=by
     rw [eq_comm,decide_eq_false_iff_not]
     intro h
     subst h
     simp at hc2
   refine wp_seq ?_
   refine Za hS qB hB [26,25,4,3,2] [102,101,0] rfl rfl fun a w F hS=>Zb (wp_ret (Zf (Ze (Ze (Zf (Ze ?_))))))
   refine Zm hfr hS rfl rfl rfl (.bool hg)
  rw [Int.toNat_natCast] at hc2
  have hqi:Go.Gm.nth u.txs i=Go.Gm.nth v.txs i:=by simpa using hc2
  refine wp_skip (Zh (Zb ?_))
  refine Za hS (qp r1 (qM rfl rfl qZ)) hB [26,25,3,2] [102,101,0] rfl rfl fun a w F hS=>Zb ?_
  replace hS:=hS.ent (i:=26) (s':=.pv (.int .i64 ((i+1:Nat):Int))) rfl (.int (wrap_succ (by omega)))
  obtain ⟨F,hS⟩:=hS.nm [26,25,3,2] [102,101,0] rfl rfl
  exact ⟨i+1,F,⟨by omega,fun j hj=>by rcases Nat.lt_or_eq_of_le (Nat.le_of_lt_succ hj) with h | h;exact hq j h;rw [h];exact hqi⟩,hS,by omega⟩
 have hT:u.txs=v.txs:=ZaU hTl fun j hj=>hq j (by simp at hc1;omega)
 clear hq hi
 refine wp_exit (Zi (Zi (Zl (Zb (wp_seq (wp_seq ?_))))))
 refine Za hS (qg 1 101 r1 r1 (qa 101 r1 r1 (qu Tryz.underlying23 r1 (qJ qZ)))) hB [45,44,3,2] [102,101,0] rfl rfl fun a w F hS=>Zb (wp_block ?_)
 obtain ⟨F,hS⟩:=hS.nm [45,44,3,2] [102,101,0] rfl rfl
 refine ZC (σ:=Nat) (fun s=>(⟨[(2,.pv (.is v2)),(3,.pv (.is v3)),(44,.pv (.int .i64 u.orders.length)),(45,.pv (.int .i64 s))],[(0,frame B),(101,.pt (.val v2) 25 [.pv (.sl rTx u.txs),.pv (.sl Zz u.orders)]),(102,.pt (.val v3) 25 [.pv (.sl rTx v.txs),.pv (.sl Zz v.orders)])]⟩:En)) (fun s=>s≤u.orders.length ∧ ∀ j,j<s→Go.Gm.nth u.orders j=Go.Gm.nth v.orders j) (fun s=>u.orders.length - s) 0 hS ⟨Nat.zero_le _,fun j hj=>absurd hj (Nat.not_lt_zero j)⟩ ?_
 clear hS;intro i a w F hC hS
 try dsimp only at hC
 try dsimp only at hS
 obtain ⟨hi,hq⟩:=hC
 refine wp_seq ?_
 refine Za hS (qL r2) hB [46,45,44,3,2] [102,101,0] rfl rfl fun a w F hS=>Zb (wp_seq ?_)
 refine Zd hS rfl (fun hc3=>?_) (fun hc3=>?_)
 ·skip
  have hil:i<u.orders.length:=by simp at hc3;omega
  refine wp_skip (Zb (wp_seq (wp_block (wp_seq ?_))))
  refine Za hS (qM rfl rfl (qN rfl rfl qZ)) hB [45,44,6,3,2] [102,101,0] rfl rfl fun a w F hS=>?_
  skip
  refine Zb (wp_seq ?_)
  refine Zw hS (qg 1 101 r1 r1 (qa 101 r1 r1 (qM rfl rfl (qy 2 Tryz.underlying23 r2 (qf (oR true 2 .t) r1 qz (qg 1 102 r1 r1 (qa 102 r1 r1 (qM rfl rfl (qy 2 Tryz.underlying23 r2 (qf (oR true 2 .t) r1 qz (qf (oP (Zj1 (Go.Gm.nth u.orders (i:Int).toNat) (Go.Gm.nth v.orders (i:Int).toNat)) Tryz.func57 (Args.two (.pagg .t) (.pagg .t))) r2 qz (qf (o_not .t) r1 qz qZ)))))))))))) hB [59,45,44,3,2] [102,101,0] rfl rfl fun a w F hS=>?_
  try dsimp only [List.map,xD,xE,xT,xU,ldSF] at hS
  refine Zb ?_
  refine Zd hS rfl (fun hc4=>?_) (fun hc4=>?_)
  ·skip
   have hg:false=decide (u=v):=by
     rw [eq_comm,decide_eq_false_iff_not]
     intro h
     subst h
     simp at hc4
   refine wp_seq ?_
   refine Za hS qB hB [45,44,4,3,2] [102,101,0] rfl rfl fun a w F hS=>Zb (wp_ret (Zf (Ze (Ze (Zf (Ze ?_))))))
   refine Zm hfr hS rfl rfl rfl (.bool hg)
  rw [Int.toNat_natCast] at hc4
  have hqi:Go.Gm.nth u.orders i=Go.Gm.nth v.orders i:=by simpa using hc4
  refine wp_skip (Zh (Zb ?_))
  refine Za hS (qp r1 (qM rfl rfl qZ)) hB [45,44,3,2] [102,101,0] rfl rfl fun a w F hS=>Zb ?_
  replace hS:=hS.ent (i:=45) (s':=.pv (.int .i64 ((i+1:Nat):Int))) rfl (.int (wrap_succ (by omega)))
  obtain ⟨F,hS⟩:=hS.nm [45,44,3,2] [102,101,0] rfl rfl
  exact ⟨i+1,F,⟨by omega,fun j hj=>by rcases Nat.lt_or_eq_of_le (Nat.le_of_lt_succ hj) with h | h;exact hq j h;rw [h];exact hqi⟩,hS,by omega⟩
 have hO:u.orders=v.orders:=ZaU hOl fun j hj=>hq j (by simp at hc3;omega)
 have hg:true=decide (u=v):=by
   rw [← Zle,hT,hO]
   simp
 refine wp_exit (Zi (Zi (Zl (Zb (wp_seq ?_)))))
 refine Za hS qB hB [4] [0] rfl rfl fun a w F hS=>Zb (wp_ret ?_)
 refine Zm hfr hS rfl rfl rfl (.bool hg)
def Zr2 (l:List TxD):Prop:=l.length≤1000000 ∧ ∀ t ∈ l,t.ops.length≤1000000
def Zqc (l:List OrdD):Prop:=l.length≤1000000 ∧ ∀ t ∈ l,t.txs.length≤1000000
structure DOk (d:Zk6):Prop where
 was:Zr2 d.was
 now:Zr2 d.now
 old:Zqc d.old
 new:Zqc d.new
def Zbt (h:HistD):Prop:=h.txs.length≤12∧h.orders.length≤24∧(∀ j,j<h.txs.length→(Go.Gm.nth h.txs j).ops.length≤24) ∧ ∀ j,j<h.orders.length→(Go.Gm.nth h.orders j).txs.length≤24
instance (h:HistD):Decidable (Zbt h):=by unfold Zbt;exact inferInstance
def ZkQ (d:Zk6):Prop:=Zbt ⟨d.was,d.old⟩∧Zbt ⟨d.now,d.new⟩
instance (d:Zk6):Decidable (ZkQ d):=by unfold ZkQ;exact inferInstance
theorem Zrk {α:Type} [Inhabited α] {q:List α} {x:α} (h:x ∈ q):∃ j,j<q.length∧Go.Gm.nth q j=x:=by
 obtain ⟨j,hj,e⟩:=List.getElem_of_mem h
 exact ⟨j,hj,by rw [Zn hj];exact e⟩
theorem ZkQ.ok {d:Zk6} (h:ZkQ d):DOk d:=by
 obtain ⟨⟨h1,h2,h3,h4⟩,h5,h6,h7,h8⟩:=h
 dsimp only at h1 h2 h3 h4 h5 h6 h7 h8
 refine ⟨⟨by omega,fun t ht=>?_⟩,⟨by omega,fun t ht=>?_⟩,⟨by omega,fun t ht=>?_⟩,⟨by omega,fun t ht=>?_⟩⟩ <;> obtain ⟨j,hj,rfl⟩:=Zrk ht
 · have:=h3 j hj;omega
 · have:=h7 j hj;omega
 · have:=h4 j hj;omega
 · have:=h8 j hj;omega
theorem Zp4 (u:HistD):FnP Tryz.prog 6 [.agg (Zo u)] (.bool (decide (Zbt u))):=by
 refine FnP.mk Tryz.func6 rfl Tryz.ntmps6 rfl ?_
 intro B a w F hB hfr hS
 obtain ⟨hxl,hyl⟩:=Sat.lenHist hS (i:=0) rfl
 refine wp_seq ?_
 refine Zc hS (qx 101 r1 qB) hB [2,1] [101,0] (fun _=>rfl) (fun _=>rfl) fun τ a w F hS=>?_
 try dsimp only [RS.sub,SF.sub,CF.sub,csub,Anc.sub,List.map,zCF] at hS
 generalize τ 1=v1 at hS
 refine Zb (wp_seq (wp_seq ?_))
 refine Za hS (qg 0 101 r1 r1 (qa 101 r1 r1 (qu Tryz.underlying22 r1 (qf (ZaJ .t qi) r1 qz (qM rfl rfl (qv 1 101 rfl r2 r1 (qw 101 rfl r2 r1 (qk rfl (fun h=>ZaI Tryz.underlying23 (.w h)) r2 qz (qk rfl (fun h=>ZaJ (.w h) qi) r2 qz (qf (ZaC .t .t) r2 qz qZ)))))))))) hB [16,2,1] [101,0] rfl rfl fun a w F hS=>Zb ?_
 refine Zd hS rfl (fun hc0=>?_) (fun hc0=>?_)
 ·skip
  have hg:false=decide (Zbt u):=by
    rw [eq_comm,decide_eq_false_iff_not]
    rintro ⟨g1,g2,g3,g4⟩
    simp at hc0;omega
  refine wp_seq ?_
  refine Za hS qB hB [2,1] [101,0] rfl rfl fun a w F hS=>Zb (wp_ret (Ze ?_))
  refine Zm hfr hS rfl rfl rfl (.bool hg)
 have hb:u.txs.length≤12∧u.orders.length≤24:=by simp at hc0;omega
 refine wp_skip (Zb (wp_seq (wp_seq ?_)))
 refine Za hS (qg 0 101 r1 r1 (qa 101 r1 r1 (qu Tryz.underlying22 r1 (qJ qZ)))) hB [20,19,18,2,1] [101,0] rfl rfl fun a w F hS=>Zb (wp_block ?_)
 obtain ⟨F,hS⟩:=hS.nm [20,19,18,1] [101,0] rfl rfl
 refine ZC (σ:=Nat) (fun s=>(⟨[(1,.pv (.is v1)),(18,.pv (.sl rTx u.txs)),(19,.pv (.int .i64 u.txs.length)),(20,.pv (.int .i64 s))],[(0,frame B),(101,.pt (.val v1) 25 [.pv (.sl rTx u.txs),.pv (.sl Zz u.orders)])]⟩:En)) (fun s=>s≤u.txs.length ∧ ∀ j,j<s→(Go.Gm.nth u.txs j).ops.length≤24) (fun s=>u.txs.length - s) 0 hS ⟨Nat.zero_le _,fun j hj=>absurd hj (Nat.not_lt_zero j)⟩ ?_
 clear hS;intro i a w F hC hS
 try dsimp only at hC
 try dsimp only at hS
 obtain ⟨hi,hq⟩:=hC
 refine wp_seq ?_
 refine Za hS (qL r2) hB [21,20,19,18,1] [101,0] rfl rfl fun a w F hS=>Zb (wp_seq ?_)
 refine Zd hS rfl (fun hc1=>?_) (fun hc1=>?_)
 ·skip
  have hil:i<u.txs.length:=by simp at hc1;omega
  refine wp_skip (Zb (wp_seq (wp_block (wp_seq ?_))))
  refine Zc hS (qy 3 Tryz.underlying22 r2 (qf (oR true 3 .t) r1 qz (qf (oH [.int .i64 0,.bool false,.slice none 0 0] 102) trivial qz (qS 3 102 r2 r1 qZ)))) hB [20,19,18,4,1] [102,101,0] (fun _=>rfl) (fun _=>rfl) fun τ a w F hS=>?_
  try dsimp only [RS.sub,SF.sub,CF.sub,csub,Anc.sub,List.map,Zg,xL,xM,Nat.reduceAdd,xD,xE,xT,xU,xC,xN,zCF,ldSF] at hS
  generalize τ 4=v4 at hS
  refine Zb (wp_seq ?_)
  refine Za hS (qg 2 102 r1 r1 (qa 102 r1 r1 (qu Tryz.underlying36 r1 (qf (ZaJ .t qi) r1 qz qZ)))) hB [27,20,19,18,1] [101,0] rfl rfl fun a w F hS=>Zb ?_
  refine Zd hS rfl (fun hc2=>?_) (fun hc2=>?_)
  ·skip
   have hg:false=decide (Zbt u):=by
     rw [eq_comm,decide_eq_false_iff_not]
     rintro ⟨g1,g2,g3,g4⟩
     have:=g3 i hil;rw [Int.toNat_natCast] at hc2;simp at hc2;omega
   refine wp_seq ?_
   refine Za hS qB hB [20,19,18,2,1] [101,0] rfl rfl fun a w F hS=>Zb (wp_ret (Zf (Ze (Ze (Zf (Ze ?_))))))
   refine Zm hfr hS rfl rfl rfl (.bool hg)
  have hqi:(Go.Gm.nth u.txs i).ops.length≤24:=by rw [Int.toNat_natCast] at hc2;simp at hc2;omega
  refine wp_skip (Zh (Zb ?_))
  refine Za hS (qp r1 (qM rfl rfl qZ)) hB [20,19,18,1] [101,0] rfl rfl fun a w F hS=>Zb ?_
  replace hS:=hS.ent (i:=20) (s':=.pv (.int .i64 ((i+1:Nat):Int))) rfl (.int (wrap_succ (by omega)))
  obtain ⟨F,hS⟩:=hS.nm [20,19,18,1] [101,0] rfl rfl
  exact ⟨i+1,F,⟨by omega,fun j hj=>by rcases Nat.lt_or_eq_of_le (Nat.le_of_lt_succ hj) with h | h;exact hq j h;rw [h];exact hqi⟩,hS,by omega⟩
 have hT:∀ j,j<u.txs.length→(Go.Gm.nth u.txs j).ops.length≤24:=fun j hj=>hq j (by simp at hc1;omega)
 clear hq hi
 refine wp_exit (Zi (Zi (Zl (Zb (wp_seq (wp_seq ?_))))))
 refine Za hS (qg 1 101 r1 r1 (qa 101 r1 r1 (qu Tryz.underlying23 r1 (qJ qZ)))) hB [32,31,30] [0] rfl rfl fun a w F hS=>Zb (wp_block ?_)
 obtain ⟨F,hS⟩:=hS.nm [32,31,30] [0] rfl rfl
 refine ZC (σ:=Nat) (fun s=>(⟨[(30,.pv (.sl Zz u.orders)),(31,.pv (.int .i64 u.orders.length)),(32,.pv (.int .i64 s))],[(0,frame B)]⟩:En)) (fun s=>s≤u.orders.length ∧ ∀ j,j<s→(Go.Gm.nth u.orders j).txs.length≤24) (fun s=>u.orders.length - s) 0 hS ⟨Nat.zero_le _,fun j hj=>absurd hj (Nat.not_lt_zero j)⟩ ?_
 clear hS;intro i a w F hC hS
 try dsimp only at hC
 try dsimp only at hS
 obtain ⟨hi,hq⟩:=hC
 refine wp_seq ?_
 refine Za hS (qL r2) hB [33,32,31,30] [0] rfl rfl fun a w F hS=>Zb (wp_seq ?_)
 refine Zd hS rfl (fun hc3=>?_) (fun hc3=>?_)
 ·skip
  have hil:i<u.orders.length:=by simp at hc3;omega
  refine wp_skip (Zb (wp_seq (wp_block (wp_seq ?_))))
  refine Zc hS (qy 2 Tryz.underlying23 r2 (qf (oR true 2 .t) r1 qz (qf (oH [.int .i64 0,.slice none 0 0] 103) trivial qz (qS 2 103 r2 r1 qZ)))) hB [32,31,30,6] [103,0] (fun _=>rfl) (fun _=>rfl) fun τ a w F hS=>?_
  try dsimp only [RS.sub,SF.sub,CF.sub,csub,Anc.sub,List.map,Zg,xL,xM,Nat.reduceAdd,xD,xE,xT,xU,xC,xN,zCF,ldSF] at hS
  generalize τ 6=v6 at hS
  refine Zb (wp_seq ?_)
  refine Za hS (qg 1 103 r1 r1 (qa 103 r1 r1 (qu Tryz.underlying39 r1 (qf (ZaJ .t qi) r1 qz qZ)))) hB [39,32,31,30] [0] rfl rfl fun a w F hS=>Zb ?_
  refine Zd hS rfl (fun hc4=>?_) (fun hc4=>?_)
  ·skip
   have hg:false=decide (Zbt u):=by
     rw [eq_comm,decide_eq_false_iff_not]
     rintro ⟨g1,g2,g3,g4⟩
     have:=g4 i hil;rw [Int.toNat_natCast] at hc4;simp at hc4;omega
   refine wp_seq ?_
   refine Za hS qB hB [32,31,30,2] [0] rfl rfl fun a w F hS=>Zb (wp_ret (Zf (Ze (Ze (Zf (Ze ?_))))))
   refine Zm hfr hS rfl rfl rfl (.bool hg)
  have hqi:(Go.Gm.nth u.orders i).txs.length≤24:=by rw [Int.toNat_natCast] at hc4;simp at hc4;omega
  refine wp_skip (Zh (Zb ?_))
  refine Za hS (qp r1 (qM rfl rfl qZ)) hB [32,31,30] [0] rfl rfl fun a w F hS=>Zb ?_
  replace hS:=hS.ent (i:=32) (s':=.pv (.int .i64 ((i+1:Nat):Int))) rfl (.int (wrap_succ (by omega)))
  obtain ⟨F,hS⟩:=hS.nm [32,31,30] [0] rfl rfl
  exact ⟨i+1,F,⟨by omega,fun j hj=>by rcases Nat.lt_or_eq_of_le (Nat.le_of_lt_succ hj) with h | h;exact hq j h;rw [h];exact hqi⟩,hS,by omega⟩
 have hO:∀ j,j<u.orders.length→(Go.Gm.nth u.orders j).txs.length≤24:=fun j hj=>hq j (by simp at hc3;omega)
 have hg:true=decide (Zbt u):=by rw [eq_comm,decide_eq_true_eq];exact ⟨hb.1,hb.2,hT,hO⟩
 refine wp_exit (Zi (Zi (Zl (Zb (wp_seq ?_)))))
 refine Za hS qB hB [2] [0] rfl rfl fun a w F hS=>Zb (wp_ret ?_)
 refine Zm hfr hS rfl rfl rfl (.bool hg)
instance (h:HistD):Decidable (Zbt h):=by unfold Zbt;exact inferInstance
theorem Zbt.small {h:HistD} (hl:Zbt h):Za0 h:=by
 obtain ⟨h1,h2,h3,h4⟩:=hl
 refine ⟨⟨by omega,fun t ht=>?_⟩,by omega,fun o ho=>?_⟩
 · obtain ⟨j,hj,e⟩:=List.getElem_of_mem ht
   have:=h3 j hj
   rw [Zn hj,e] at this;omega
 · obtain ⟨j,hj,e⟩:=List.getElem_of_mem ho
   have:=h4 j hj
   rw [Zn hj,e] at this;omega
section
set_option linter.unusedSectionVars false
variable {α:Type} {κ:α→Int} {t x:α} {l out r:List α} {d:Bool}
def ZbN (κ:α→Int) (t:α):List α→Bool→List α
 | [],d=>if d=true then [] else [t]
 | x :: l,d=>(if d=false∧κ t≤κ x then [t] else [])++(if κ x=κ t then [] else [x])++ZbN κ t l (d || decide (κ t≤κ x))
theorem Zbq:∀ l:List α,ZbN κ t l true=l.filter fun x=>!decide (κ x=κ t)
 | []=>rfl
 | x :: l=>by
   rw [ZbN,if_neg (by simp),List.nil_append,Bool.true_or,Zbq l]
   split
   · rename_i h;rw [List.filter_cons_of_neg (by simpa using h)];rfl
   · rename_i h;rw [List.filter_cons_of_pos (by simpa using h)];rfl
theorem Zdt {k:Int} (h:∀ x ∈ l,k<κ x):(l.filter fun x=>!decide (κ x=k))=l:=by
 rw [List.filter_eq_self]
 intro x hx
 have:=h x hx
 simp;omega
theorem ZfU {k:Int} : lowK κ k (x :: l)=if κ x<k then lowK κ k l+1 else 0:=by
 unfold lowK
 split
 · rename_i h1;rw [List.takeWhile_cons_of_pos (by simpa using h1),List.length_cons]
 · rename_i h1;rw [List.takeWhile_cons_of_neg (by simpa using h1)];rfl
theorem Za9 {k:Int} : isK κ k (x :: l)=(decide (κ x=k) || isK κ k l):=by unfold isK;rw [List.any_cons]
theorem Zlw {k:Int} (h:∀ x ∈ l,k<κ x):isK κ k l=false:=by
 unfold isK
 rw [List.any_eq_false]
 intro x hx
 have:=h x hx
 simp;omega
theorem Zip (hs:l.Pairwise fun a b=>κ a<κ b) (hk:isK κ (κ t) l=false):ZbN κ t l false=l.take (lowK κ (κ t) l) ++ [t] ++ l.drop (lowK κ (κ t) l):=by
 induction l with
 | nil=>rfl
 | cons x l ih=>
   rw [List.pairwise_cons] at hs
   rw [Za9,Bool.or_eq_false_iff,decide_eq_false_iff_not] at hk
   rw [ZbN,if_neg hk.1,ZfU]
   by_cases h:κ x<κ t
   · rw [if_neg (by omega),if_pos h,show (false || decide (κ t≤κ x))=false by simp;omega,ih hs.2 hk.2];simp
   · rw [if_pos ⟨rfl,by omega⟩,if_neg h,show (false || decide (κ t≤κ x))=true by simp;omega,Zbq,Zdt fun y hy=>by have:=hs.1 y hy;omega];simp
theorem Zij (hs:l.Pairwise fun a b=>κ a<κ b) (hk:isK κ (κ t) l=true):ZbN κ t l false=l.set (lowK κ (κ t) l) t:=by
 induction l with
 | nil=>simp [isK] at hk
 | cons x l ih=>
   rw [List.pairwise_cons] at hs
   rw [ZbN,ZfU]
   by_cases h:κ x<κ t
   · rw [Za9,decide_eq_false (by omega),Bool.false_or] at hk
     rw [if_neg (by omega),if_neg (by omega),if_pos h,show (false || decide (κ t≤κ x))=false by simp;omega,ih hs.2 hk];rfl
   · rw [if_pos ⟨rfl,by omega⟩,if_neg h,show (false || decide (κ t≤κ x))=true by simp;omega,Zbq,Zdt fun y hy=>by have:=hs.1 y hy;omega]
     have hx:κ x=κ t:=by
       refine Decidable.byContradiction fun h9=>?_
       rw [Za9,decide_eq_false h9,Bool.false_or,Zlw fun y hy=>by have:=hs.1 y hy;omega] at hk
       cases hk
     rw [if_pos hx];rfl
theorem ZgB {k:Int} (hs:l.Pairwise fun a b=>κ a<κ b) (hk:isK κ k l=true):(l.filter fun x=>!decide (κ x=k))=l.take (lowK κ k l)++l.drop (lowK κ k l+1):=by
 induction l with
 | nil=>simp [isK] at hk
 | cons x l ih=>
   rw [List.pairwise_cons] at hs
   rw [ZfU]
   by_cases h:κ x<k
   · rw [Za9,decide_eq_false (by omega),Bool.false_or] at hk
     rw [List.filter_cons_of_pos (by simp;omega),if_pos h,ih hs.2 hk];rfl
   · have hx:κ x=k:=by
       refine Decidable.byContradiction fun h9=>?_
       rw [Za9,decide_eq_false h9,Bool.false_or,Zlw fun y hy=>by have:=hs.1 y hy;omega] at hk
       cases hk
     rw [List.filter_cons_of_neg (by simpa using hx),if_neg h,Zdt fun y hy=>by have:=hs.1 y hy;omega];simp
theorem Zfc {y:α} (h:y ∈ ZbN κ t l d):(y=t∧d=false)∨(y ∈ l∧κ y≠κ t):=by
 induction l generalizing d with
 | nil=>cases d <;> simp [ZbN] at h;exact .inl ⟨h,rfl⟩
 | cons x l ih=>
   rw [ZbN,List.mem_append,List.mem_append] at h
   rcases h with (h | h) | h
   · split at h
     · rename_i h1;exact .inl ⟨by simpa using h,h1.1⟩
     · cases h
   · split at h
     · cases h
     · rename_i h1
       have e:y=x:=by simpa using h
       subst e
       exact .inr ⟨by simp,h1⟩
   · rcases ih h with ⟨h1,h2⟩ | ⟨h1,h2⟩
     · rw [Bool.or_eq_false_iff] at h2;exact .inl ⟨h1,h2.1⟩
     · exact .inr ⟨by simp [h1],h2⟩
theorem Zep (hs:l.Pairwise fun a b=>κ a<κ b):(ZbN κ t l d).Pairwise fun a b=>κ a<κ b:=by
 induction l generalizing d with
 | nil=>cases d <;> simp [ZbN]
 | cons x l ih=>
   rw [List.pairwise_cons] at hs
   have hf:=hs.2.filter fun x=>!decide (κ x=κ t)
   rw [ZbN]
   by_cases hA:d=false∧κ t≤κ x
   · rw [if_pos hA,show (d || decide (κ t≤κ x))=true by simp [hA.2],Zbq]
     have h1:∀ y ∈ l.filter (fun x=>!decide (κ x=κ t)),κ x<κ y:=fun y hy=>hs.1 y (List.mem_filter.1 hy).1
     split
     · rw [List.append_nil,List.singleton_append,List.pairwise_cons]
       exact ⟨fun y hy=>by have:=h1 y hy;omega,hf⟩
     · rename_i h2
       rw [List.append_assoc,List.singleton_append,List.singleton_append,List.pairwise_cons,List.pairwise_cons]
       refine ⟨fun y hy=>?_,h1,hf⟩
       rcases List.mem_cons.1 hy with rfl | hy
       · omega
       · have:=h1 y hy;omega
   · rw [if_neg hA,List.nil_append]
     have ih2:=ih (d:=d || decide (κ t≤κ x)) hs.2
     split
     · simpa using ih2
     · rename_i h2
       rw [List.singleton_append,List.pairwise_cons]
       refine ⟨fun y hy=>?_,ih2⟩
       rcases Zfc hy with ⟨rfl,h3⟩ | ⟨h3,_⟩
       · rw [Bool.or_eq_false_iff] at h3
         have:=of_decide_eq_false h3.2
         omega
       · exact hs.1 y h3
end
def getO (os:List OrdD) (k:Int):List Int:=((os.find? fun o=>decide (o.key=k)).map OrdD.txs).getD []
theorem ZO {o:OrdD} {os:List OrdD} {k:Int} : getO (o :: os) k=if o.key=k then o.txs else getO os k:=by
 unfold getO
 rw [List.find?_cons]
 by_cases h:o.key=k <;> simp [h]
theorem Zco {os:List OrdD} {k:Int} (h:∀ o ∈ os,o.key≠k):getO os k = []:=by
 unfold getO
 rw [List.find?_eq_none.2 fun o ho=>by simpa using h o ho];rfl
theorem Za8 {os:List OrdD} {o:OrdD} (hs:os.Pairwise fun a b=>a.key<b.key) (h:o ∈ os):getO os o.key=o.txs:=by
 induction os with
 | nil=>cases h
 | cons x os ih=>
   rw [List.pairwise_cons] at hs
   rw [ZO]
   rcases List.mem_cons.1 h with rfl | h
   · rw [if_pos rfl]
   · have:=hs.1 o h
     rw [if_neg (by omega),ih hs.2 h]
theorem Zh9 {os:List OrdD} {k:Int} (h:getO os k≠[]):(⟨k,getO os k⟩:OrdD) ∈ os:=by
 induction os with
 | nil=>exact absurd rfl h
 | cons x os ih=>
   rw [ZO] at h ⊢
   by_cases e:x.key=k
   · rw [if_pos e];subst e;simp
   · rw [if_neg e] at h ⊢;simp [ih h]
def NE (os:List OrdD):Prop:=∀ o ∈ os,o.txs≠[]
theorem Zne:∀ {a b:List OrdD},(a.Pairwise fun x y=>x.key<y.key)→(b.Pairwise fun x y=>x.key<y.key)→(∀ o,o ∈ a ↔ o ∈ b)→a=b
 | [],[],_,_,_=>rfl
 | [],y :: b,_,_,h=>by have:=(h y).2 (by simp);cases this
 | x :: a,[],_,_,h=>by have:=(h x).1 (by simp);cases this
 | x :: a,y :: b,ha,hb,h=>by
   rw [List.pairwise_cons] at ha hb
   have e:x=y:=by
     rcases List.mem_cons.1 ((h x).1 (by simp)) with e | h1
     · exact e
     · rcases List.mem_cons.1 ((h y).2 (by simp)) with e | h2
       · exact e.symm
       · have:=ha.1 y h2;have:=hb.1 x h1;omega
   subst e
   rw [Zne (a:=a) (b:=b) ha.2 hb.2 fun o=>?_]
   constructor
   · intro ho
     rcases List.mem_cons.1 ((h o).1 (by simp [ho])) with e | h1
     · have:=ha.1 o ho;rw [e] at this;omega
     · exact h1
   · intro ho
     rcases List.mem_cons.1 ((h o).2 (by simp [ho])) with e | h1
     · have:=hb.1 o ho;rw [e] at this;omega
     · exact h1
theorem Zrh {a b:List OrdD} (ha:a.Pairwise fun x y=>x.key<y.key) (hb:b.Pairwise fun x y=>x.key<y.key) (na:NE a) (nb:NE b) (h:∀ k,getO a k=getO b k):a=b:=by
 refine Zne ha hb fun o=>⟨fun ho=>?_,fun ho=>?_⟩
 · have h1:=Za8 ha ho
   have h2:getO b o.key≠[]:=by rw [← h,h1];exact na o ho
   have h3:=Zh9 h2
   rw [← h,h1] at h3;exact h3
 · have h1:=Za8 hb ho
   have h2:getO a o.key≠[]:=by rw [h,h1];exact nb o ho
   have h3:=Zh9 h2
   rw [h,h1] at h3;exact h3
def ZeK (t:TxD) (l:List Int) (k:Int):List Int:=if t.done=true∧0<wcnt t.ops k then withO l t.id else withoutO l t.id
theorem ZjH {os:List OrdD} (hs:os.Pairwise fun a b=>a.key<b.key) (k:Int):getO (os.filter fun o=>!decide (o.txs = [])) k=getO os k:=by
 induction os with
 | nil=>rfl
 | cons x os ih=>
   rw [List.pairwise_cons] at hs
   rw [ZO]
   by_cases e:x.txs = []
   · rw [List.filter_cons_of_neg (by simpa using e),ih hs.2]
     split
     · rename_i hk
       rw [e,Zco fun o ho=>by have:=hs.1 o ho;omega]
     · rfl
   · rw [List.filter_cons_of_pos (by simpa using e),ZO,ih hs.2]
theorem Zp2 {t:TxD} {os:List OrdD} {k:Int} : getO (os.map (ZjV t)) k=if isK OrdD.key k os=true then ZeK t (getO os k) k else []:=by
 induction os with
 | nil=>simp [getO,isK]
 | cons x os ih=>
   rw [List.map_cons,ZO,ZO,Za9,ih]
   by_cases e:x.key=k
   · subst e
     rw [if_pos (show (ZjV t x).key=x.key from rfl),if_pos rfl]
     simp [ZjV,ZeK]
   · rw [if_neg (show ¬ (ZjV t x).key=k from e),if_neg e,decide_eq_false e,Bool.false_or]
theorem Ziw {k' k:Int} : ∀ {os:List OrdD},(os.Pairwise fun a b=>a.key<b.key)→getO (Zjs k' os) k=getO os k
 | [],_=>by unfold Zjs;rw [ZO];split <;> rfl
 | x :: os,h=>by
   rw [List.pairwise_cons] at h
   unfold Zjs
   split
   · rw [ZO,ZO,Ziw h.2]
   · split
     · rfl
     · rw [ZO]
       split
       · rename_i h1 h2 h3
         have h3:k' = k:=h3
         subst h3
         refine (Zco fun o ho=>?_).symm
         rcases List.mem_cons.1 ho with rfl | ho
         · exact h2
         · have:=h.1 o ho;omega
       · rfl
theorem Zkw {k' k:Int} : ∀ {os:List OrdD},isK OrdD.key k (Zjs k' os)=(isK OrdD.key k os || decide (k' = k))
 | []=>by simp [Zjs,isK]
 | x :: os=>by
   unfold Zjs
   split
   · rw [Za9,Za9,Zkw,Bool.or_assoc]
   · split
     · rename_i h2
       rw [Za9]
       by_cases e:k' = k
       · simp [h2,e]
       · simp [e]
     · rw [Za9,Bool.or_comm]
theorem Zlp:∀ (ks:List Int) {os:List OrdD} (k:Int),ZbP OrdD.key os→getO (ks.foldl ZeO os) k=getO os k∧isK OrdD.key k (ks.foldl ZeO os)=(isK OrdD.key k os || decide (k ∈ ks))
 | [],os,k,_=>by simp
 | k' :: ks,os,k,h=>by
   obtain ⟨h1,h2⟩:=Zlp ks k (insK_rise k' h)
   rw [List.foldl_cons,h1,h2,Zh0 k' h,Ziw (Zs.1 h),Zkw]
   refine ⟨rfl,?_⟩
   rw [Bool.or_assoc]
   congr 1
   rw [Bool.eq_iff_iff]
   simp only [Bool.or_eq_true,decide_eq_true_eq,List.mem_cons]
   exact ⟨fun h=>h.elim (fun h=>.inl h.symm) .inr,fun h=>h.elim (fun h=>.inl h.symm) .inr⟩
theorem Zog {os:List OrdD} {k:Int} (h:isK OrdD.key k os=false):getO os k = []:=by
 refine Zco fun o ho e=>?_
 unfold isK at h
 rw [List.any_eq_false] at h
 exact h o ho (by simpa using e)
theorem Zel {t:TxD} {os:List OrdD} (h:ZbP OrdD.key os) (k:Int):getO (settleO t os) k=ZeK t (getO os k) k:=by
 unfold settleO
 have hins:getO (Zdj t os (ZY t)) k=getO os k∧isK OrdD.key k (Zdj t os (ZY t))=(isK OrdD.key k os || (t.done && decide (k ∈ ZY t)))∧ZbP OrdD.key (Zdj t os (ZY t)):=by
   unfold Zdj
   split
   · rename_i hd
     obtain ⟨h1,h2⟩:=Zlp (ZY t) k h
     refine ⟨h1,by rw [h2,hd,Bool.true_and],?_⟩
     have key:∀ (ks:List Int) (os:List OrdD),ZbP OrdD.key os→ZbP OrdD.key (ks.foldl ZeO os):=by
       intro ks
       induction ks with
       | nil=>intro os h;exact h
       | cons k ks ih=>intro os h;exact ih _ (insK_rise k h)
     exact key _ _ h
   · rename_i hd
     exact ⟨rfl,by simp [hd],h⟩
 obtain ⟨h1,h2,h3⟩:=hins
 have hm:((Zdj t os (ZY t)).map (ZjV t)).Pairwise fun a b=>a.key<b.key:=List.pairwise_map.2 ((Zs.1 h3).imp fun h=>h)
 rw [ZjH hm,Zp2,h1,h2]
 split
 · rfl
 · rename_i hk
   simp only [Bool.or_eq_true,not_or,Bool.and_eq_true,decide_eq_true_eq] at hk
   have hk1:isK OrdD.key k os=false:=by simpa using hk.1
   rw [Zog hk1]
   unfold ZeK
   rw [if_neg fun h9=>hk.2 ⟨h9.1,ZcJ.2 h9.2⟩];rfl
theorem Zkd {t:TxD} {os:List OrdD} (h:ZbP OrdD.key os) (hs:Zda os):(settleO t os).Pairwise (fun a b=>a.key<b.key)∧NE (settleO t os):=by
 have h3:=(ZgJ (t:=t) h hs (ZY t)).1
 have hm:((Zdj t os (ZY t)).map (ZjV t)).Pairwise fun a b=>a.key<b.key:=List.pairwise_map.2 ((Zs.1 h3).imp fun h=>h)
 refine ⟨hm.filter _,fun o ho=>?_⟩
 have:=(List.mem_filter.1 ho).2
 simpa using this
theorem ZkT {o:OrdD} {os:List OrdD} {d:Bool} (hs:os.Pairwise fun a b=>a.key<b.key) (k:Int):getO (ZbN OrdD.key o os d) k=if k=o.key then (if d=true then [] else o.txs) else getO os k:=by
 have hf:∀ os:List OrdD,getO (os.filter fun x=>!decide (x.key=o.key)) k=if k=o.key then [] else getO os k:=by
   intro os
   induction os with
   | nil=>split <;> rfl
   | cons x os ih=>
     by_cases e:x.key=o.key
     · rw [List.filter_cons_of_neg (by simpa using e),ih,ZO]
       split
       · rfl
       · rename_i h;rw [if_neg (by omega)]
     · rw [List.filter_cons_of_pos (by simpa using e),ZO,ZO,ih]
       split
       · rename_i h;rw [if_neg (by omega)]
       · rfl
 cases d with
 | true=>rw [Zbq,hf];simp
 | false=>
   simp only [Bool.false_eq_true,if_false]
   induction os with
   | nil=>
     show getO [o] k=_
     rw [ZO]
     by_cases e:o.key=k
     · rw [if_pos e,if_pos e.symm]
     · rw [if_neg e,if_neg fun h=>e h.symm]
   | cons x os ih=>
     rw [List.pairwise_cons] at hs
     rw [ZbN]
     by_cases hA:o.key≤x.key
     · rw [if_pos ⟨rfl,hA⟩,show (false || decide (o.key≤x.key))=true by simp [hA],Zbq,List.append_assoc,List.singleton_append,ZO]
       by_cases e:o.key=k
       · rw [if_pos e,if_pos e.symm]
       · have e':¬ k=o.key:=fun h=>e h.symm
         rw [if_neg e,if_neg e',ZO]
         by_cases e2:x.key=o.key
         · rw [if_pos e2,List.nil_append,hf,if_neg e',if_neg (show ¬ x.key=k by omega)]
         · rw [if_neg e2,List.singleton_append,ZO,hf,if_neg e']
     · rw [if_neg fun h=>hA h.2,if_neg (by omega),List.nil_append,List.singleton_append,show (false || decide (o.key≤x.key))=false by simp;omega,ZO,ZO,ih hs.2]
       split
       · rename_i h;rw [if_neg (by omega)]
       · rfl
theorem Zrn {os:List OrdD} {k:Int} {i:Nat} (hi:i<os.length) (h:(Go.Gm.nth os i).key=k) (hq:∀ q,q<i→(Go.Gm.nth os q).key≠k):getO os k=(Go.Gm.nth os i).txs:=by
 unfold getO
 rw [List.find?_eq_some_iff_getElem.2 ⟨by simpa using h,i,hi,(Zn hi).symm,fun j hj=>by have:=hq j hj;rw [Zn (by omega)] at this;simpa using this⟩];rfl
theorem Zrv {os:List OrdD} {k:Int} (hq:∀ q,q<os.length→(Go.Gm.nth os q).key≠k):getO os k = []:=Zco fun o ho=>by
 obtain ⟨j,hj,e⟩:=List.getElem_of_mem ho
 have:=hq j hj
 rwa [Zn hj,e] at this
theorem ZlR (g:HistD) (key:Int):FnP Tryz.prog 22 [.agg (Zo g),.int .i64 key] (.sl rInt (getO g.orders key)):=by
 refine FnP.mk Tryz.func22 rfl Tryz.ntmps22 rfl ?_
 intro B a w F hB hfr hS
 obtain ⟨hxl,hyl⟩:=Sat.lenHist hS (i:=0) rfl
 refine wp_seq ?_
 refine Zc hS (qx 101 r1 (qC qZ)) hB [4,2,1] [101,0] (fun _=>rfl) (fun _=>rfl) fun τ a w F hS=>?_
 try dsimp only [RS.sub,SF.sub,CF.sub,csub,Anc.sub,List.map,zCF,Zo,rTx,Zz,ZQ,rInt,rOp] at hS
 generalize τ 2=v2 at hS
 refine Zb (wp_seq (wp_seq ?_))
 refine Za hS (qg 1 101 r1 r1 (qa 101 r1 r1 (qu Tryz.underlying23 r1 (qJ qZ)))) hB [10,9,8,4,1] [101,0] rfl rfl fun a w F hS=>Zb (wp_block ?_)
 refine Zp (σ:=(Nat)) [1,4,8,9] [0,101] (fun s=>[(10,.pv (.int .i64 (s:Int)))]) (fun s=>[]) (fun s=>s≤g.orders.length∧(∀ q,q<s→(Go.Gm.nth g.orders q).key≠key)) (fun s=>g.orders.length - s) (0) hS ⟨rfl,rfl,rfl,rfl,rfl,trivial⟩ ⟨rfl,rfl,trivial⟩ ⟨Nat.zero_le _,fun q hq=>absurd hq (Nat.not_lt_zero q)⟩ ?_
 clear hS;intro i a w F hC hS
 try dsimp only at hC
 obtain ⟨F,hS⟩:=hS.nm [10,9,8,4,1] [101,0] rfl rfl
 try dsimp only at hS
 obtain ⟨hi,hq⟩:=hC
 refine wp_seq ?_
 refine Za hS (qL r2) hB [11,10,9,8,4,1] [101,0] rfl rfl fun a w F hS=>Zb (wp_seq ?_)
 refine Zd hS rfl (fun hc0=>?_) (fun hc0=>?_)
 ·skip
  have hil:i<g.orders.length:=by simp at hc0;omega
  refine wp_skip (Zb (wp_seq (wp_block (wp_seq ?_))))
  refine Zc hS (qy 2 Tryz.underlying23 r2 (qf (oR true 2 .t) r1 qz (qf (oH [.int .i64 0,.slice none 0 0] 102) trivial qz (qS 2 102 r2 r1 qZ)))) hB [10,9,8,6,4,1] [102,101,0] (fun _=>rfl) (fun _=>rfl) fun τ a w F hS=>?_
  try dsimp only [RS.sub,SF.sub,CF.sub,csub,Anc.sub,List.map,Zg,xL,xM,Nat.reduceAdd,xD,xE,xT,xU,xC,xN,zCF,ldSF,Zo,rTx,Zz,ZQ,rInt,rOp] at hS
  generalize τ 6=v6 at hS
  try simp only [Int.toNat_natCast] at hS
  refine Zb (wp_seq ?_)
  refine Za hS (qg 0 102 r1 r1 (qa 102 r1 r1 (qM rfl rfl (qf (o_eql .t .t) r2 qz qZ)))) hB [17,10,9,8,6,4,1] [102,101,0] rfl rfl fun a w F hS=>Zb ?_
  refine Zd hS rfl (fun hc1=>?_) (fun hc1=>?_)
  ·skip
   have hg:(Go.Gm.nth g.orders i).txs=getO g.orders key:=(Zrn hil (by simpa using hc1) hq).symm
   refine wp_seq ?_
   refine Za hS (qg 1 102 r1 r1 (qa 102 r1 r1 (qN rfl rfl qZ))) hB [10,9,8,4,1] [102,101,0] rfl rfl fun a w F hS=>Zb (wp_ret (Zf (Ze (Ze (Zf (Ze ?_))))))
   refine Zm hfr hS rfl rfl rfl (by first | exact .sl hg | (rw [← hg];exact .nilSl))
  have hne:(Go.Gm.nth g.orders i).key≠key:=by simpa using hc1
  refine wp_skip (Zh (Zb ?_))
  refine Za hS (qp r1 (qM rfl rfl qZ)) hB [10,9,8,4,1] [102,101,0] rfl rfl fun a w F hS=>Zb ?_
  replace hS:=hS.ent (i:=10) (s':=.pv (.int .i64 ((i+1:Nat):Int))) rfl (.int (wrap_succ (by omega)))
  obtain ⟨F,hS⟩:=hS.nm [9,8,4,1,10] [101,0] rfl rfl
  exact ⟨(i+1),F,⟨by omega,(fun q h9=>by rcases Nat.lt_or_eq_of_le (Nat.le_of_lt_succ h9) with h8 | h8;exact hq q h8;rw [h8];exact hne)⟩,hS,by omega⟩
 have hil:i=g.orders.length:=by simp at hc0;omega
 have hg:[] = getO g.orders key:=(Zrv (by rw [← hil];exact hq)).symm
 refine wp_exit (Zi (Zi (Zl (Zb (wp_seq ?_)))))
 refine Za hS (qC qZ) hB [4] [101,0] rfl rfl fun a w F hS=>Zb (wp_ret ?_)
 refine Zm hfr hS rfl rfl rfl (by first | exact .sl hg | (rw [← hg];exact .nilSl))
theorem ZjN {l:List TxD} {id:Int} : (ZK l id).isSome=isK TxD.id id l:=by
 unfold ZK isK
 rw [Bool.eq_iff_iff,List.find?_isSome,List.any_eq_true]
theorem Zc4 {g:HistD} (h:Zx g):NE g.orders:=fun o ho=>by
 have h2:=(ZcQ g).2 h.2.2
 obtain ⟨j,hj,e⟩:=List.getElem_of_mem ho
 have:=(h2.2 j hj).2.1
 rwa [Zn hj,e] at this
theorem ZsH {g:HistD} {t:TxD} {there:Int} {wanted:Bool} (h:¬ Zx g):mayH g t there wanted=(0,5):=if_pos h
theorem Zr9 {g:HistD} {t:TxD} {there:Int} {wanted:Bool} (h:Zx g) (h2:ZU t=0) (h3:isK TxD.id t.id g.txs=wanted) (h4:Zbi g t=true):mayH g t there wanted=(((lowK TxD.id t.id g.txs:Nat):Int),0):=by unfold mayH;rw [if_neg (Decidable.not_not.2 h),if_neg (Decidable.not_not.2 h2),if_neg (Decidable.not_not.2 h3),if_neg (by simp [h4])]
theorem Znh {os:List OrdD} {k:Int} (hr:ZbP OrdD.key os) (h:isK OrdD.key k os=true):getO os k=(Go.Gm.nth os (lowK OrdD.key k os)).txs:=by
 obtain ⟨h1,h2⟩:=Zdk hr h
 have:=Za8 (Zs.1 hr) (ZB h1)
 rwa [h2] at this
theorem Zm9 {os:List OrdD} {k:Int} (hr:ZbP OrdD.key os) (hn:NE os):getO os k = [] ↔ isK OrdD.key k os=false:=by
 constructor
 · intro h
   cases hk:isK OrdD.key k os with
   | false=>rfl
   | true=>
     rw [Znh hr hk] at h
     exact absurd h (hn _ (ZB (Zdk hr hk).1))
 · exact Zog
theorem Zos {g:HistD} {key:Int} {rule:List Int→List Int×Int} (h:¬ Zx g):Z0 g key rule=(zeroH,5):=if_pos h
theorem ZrZ {g:HistD} {key:Int} {rule:List Int→List Int×Int} (h:Zx g) (h2:getO g.orders key = []):Z0 g key rule=(zeroH,3):=by
 unfold Z0
 rw [if_neg (Decidable.not_not.2 h),if_pos ((Zm9 (Zq h).2 (Zc4 h)).1 h2)]
theorem Zn5 {g:HistD} {key:Int} (h:Zx g) (h2:getO g.orders key≠[]):isK OrdD.key key g.orders=true:=by
 cases hk:isK OrdD.key key g.orders with
 | true=>rfl
 | false=>exact absurd ((Zm9 (Zq h).2 (Zc4 h)).2 hk) h2
theorem Zr1 {g:HistD} {key:Int} {rule:List Int→List Int×Int} (h:Zx g) (h2:getO g.orders key≠[]) (h3:(rule (getO g.orders key)).2≠0):Z0 g key rule=(zeroH,(rule (getO g.orders key)).2):=by
 have hk:=Zn5 h h2
 have hg:=Znh (Zq h).2 hk
 unfold Z0
 rw [if_neg (Decidable.not_not.2 h),if_neg (by simp [hk]),← hg,if_pos h3]
theorem Zqv {g:HistD} {key:Int} {rule:List Int→List Int×Int} (h:Zx g) (h2:getO g.orders key≠[]) (h3:(rule (getO g.orders key)).2=0) (h4:(rule (getO g.orders key)).1≠[]):Z0 g key rule=(⟨g.txs,ZbN OrdD.key ⟨key,(rule (getO g.orders key)).1⟩ g.orders (decide ((rule (getO g.orders key)).1 = []))⟩,0):=by
 have hk:=Zn5 h h2
 have hr:=(Zq h).2
 have hg:=Znh hr hk
 unfold Z0
 rw [if_neg (Decidable.not_not.2 h),if_neg (by simp [hk]),← hg,if_neg (by simp [h3]),decide_eq_false h4,Zij (κ:=OrdD.key) (t:=⟨key,(rule (getO g.orders key)).1⟩) (Zs.1 hr) hk,(Zdk hr hk).2]
theorem Zif {l:List Int} {id place:Int} (h:(Zaf l id place).2=0):(Zaf l id place).1.Perm l:=by
 have h9:=h
 unfold Zaf at h9
 split at h9
 · simp at h9
 · rename_i h1
   split at h9
   · simp at h9
   · rename_i h2
     refine ZcY ?_ (Decidable.not_not.1 h2)
     refine Decidable.byContradiction fun hm=>h1 ?_
     rw [ZhA hm];decide
structure EdD where
 kind:Int
 t:TxD
 o:OrdD
 place:Int
 deriving DecidableEq,Inhabited
def doH (g:HistD) (e:EdD):HistD×Int:=if e.kind=0 then Zam g e.t else if e.kind=1 then Zad g e.t.id else if e.kind=2 then Za4 g e.t else if e.kind=3 then ZcZ g e.o else if e.kind=4 then Zmp g e.o.key e.t.id e.place else (zeroH,5)
def Zeu (e:EdD):Prop:=e.t.ops.length≤24∧e.o.txs.length≤24
instance (e:EdD):Decidable (Zeu e):=by unfold Zeu;exact inferInstance
def Zqh (l:List EdD):Prop:=l.length≤24 ∧ ∀ e ∈ l,Zeu e
instance (l:List EdD):Decidable (Zqh l):=by unfold Zqh;exact inferInstance
def Zhh (g:HistD) (e:EdD):HistD:=if (doH g e).2=0 then (doH g e).1 else g
def Fit (n:Nat) (g:HistD):Prop:=(g.txs.length≤n ∧ ∀ t ∈ g.txs,t.ops.length≤24)∧g.orders.length≤24*n ∧ ∀ o ∈ g.orders,o.txs.length≤n
theorem Fit.small {n:Nat} {g:HistD} (h:Fit n g) (hn:n≤30):Za0 g:=by
 obtain ⟨⟨h1,h2⟩,h3,h4⟩:=h
 exact ⟨⟨by omega,fun t ht=>by have:=h2 t ht;omega⟩,by omega,fun o ho=>by have:=h4 o ho;omega⟩
theorem Fit.zero:Fit 0 zeroH:=⟨⟨by simp [zeroH],fun t ht=>by cases ht⟩,by simp [zeroH],fun o ho=>by cases ho⟩
theorem Fit.up {n:Nat} {g:HistD} (h:Fit n g):Fit (n+1) g:=⟨⟨by have:=h.1.1;omega,h.1.2⟩,by have:=h.2.1;omega,fun o ho=>by have:=h.2.2 o ho;omega⟩
theorem Fit.none {n:Nat} : Fit n zeroH:=by
 induction n with
 | zero=>exact Fit.zero
 | succ n ih=>exact ih.up
theorem ZnB {os:List OrdD} {ks:List Int} {t:TxD} {o:OrdD} (h:o ∈ Zdj t os ks):o ∈ os∨o.txs = []:=by
 unfold Zdj at h
 split at h
 · have key:∀ (ks:List Int) (os:List OrdD),o ∈ ks.foldl ZeO os→o ∈ os∨o.txs = []:=by
     intro ks
     induction ks with
     | nil=>intro os h;exact .inl h
     | cons k ks ih=>
       intro os h
       rcases ih _ h with h | h
       · rcases Zlk h with h | h
         · exact .inl h
         · exact .inr (by rw [h])
       · exact .inr h
   exact key ks os h
 · exact .inl h
theorem ZlN {n:Nat} {t:TxD} {os:List OrdD} (ht:t.ops.length≤24) (h1:os.length≤24*n) (h2:∀ o ∈ os,o.txs.length≤n):(settleO t os).length≤24*(n+1) ∧ ∀ o ∈ settleO t os,o.txs.length≤n+1:=by
 have hk:=Zcz t
 have hl:(Zdj t os (ZY t)).length≤os.length+(ZY t).length:=by
   unfold Zdj
   split
   · have key:∀ (ks:List Int) (os:List OrdD),(ks.foldl ZeO os).length≤os.length+ks.length:=by
       intro ks
       induction ks with
       | nil=>intro os;simp
       | cons k ks ih=>intro os;have h1:=ih (ZeO os k);have h2:=ZkH os k;rw [List.foldl_cons,List.length_cons];omega
     exact key _ _
   · omega
 unfold settleO
 refine ⟨Nat.le_trans (List.length_filter_le _ _) (by rw [List.length_map];omega),fun o ho=>?_⟩
 obtain ⟨o',ho',e⟩:=List.mem_map.1 (List.mem_filter.1 ho).1
 have hlen:o'.txs.length≤n:=by
   rcases ZnB ho' with h | h
   · exact h2 o' h
   · rw [h];simp
 rw [← e]
 unfold ZjV
 show (if _ then _ else _:List Int).length≤_
 split
 · unfold withO;split
   · omega
   · simp;omega
 · unfold withoutO
   exact Nat.le_trans (List.length_filter_le _ _) (by omega)
theorem Zgw {n:Nat} {g:HistD} {key:Int} {rule:List Int→List Int×Int} (hr:∀ l,(rule l).2=0→(rule l).1.length≤l.length) (h:Fit n g):Fit n (Z0 g key rule).1:=by
 unfold Z0
 split
 · exact Fit.none
 · split
   · exact Fit.none
   · split
     · exact Fit.none
     · rename_i h1 h2 h3
       refine ⟨h.1,by show (List.set _ _ _).length≤_;rw [List.length_set];exact h.2.1,fun o ho=>?_⟩
       rcases List.mem_or_eq_of_mem_set ho with h4 | h4
       · exact h.2.2 o h4
       · have hk:isK OrdD.key key g.orders=true:=by simpa using h2
         have hlt:=(Zdk (Zq (Decidable.not_not.1 h1)).2 hk).1
         have:=hr _ (Decidable.not_not.1 h3)
         have:=h.2.2 _ (ZB hlt)
         rw [h4];show (rule _).1.length≤n;omega
theorem Fit.doH {n:Nat} {g:HistD} {e:EdD} (h:Fit n g) (he:Zeu e):Fit (n+1) (doH g e).1:=by
 have hset:∀ t:TxD,t.ops.length≤24 → ∀ txs:List TxD,txs.length≤n+1→(∀ t ∈ txs,t.ops.length≤24)→Fit (n+1) ⟨txs,settleO t g.orders⟩:=fun t ht txs h1 h2=>by
   obtain ⟨h3,h4⟩:=ZlN ht h.2.1 h.2.2
   exact ⟨⟨h1,h2⟩,h3,h4⟩
 unfold Go.Proofs.YtjhapicamnijnaaGreatDoor.doH
 split
 · unfold Zam
   split
   · exact Fit.none
   · split
     · exact Fit.none
     · refine hset _ he.1 _ ?_ fun t ht=>?_
       · have:=h.1.1;rw [List.length_append,List.length_append,List.length_take,List.length_drop];simp;omega
       · rw [List.mem_append,List.mem_append] at ht
         rcases ht with (ht | ht) | ht
         · exact h.1.2 t (List.mem_of_mem_take ht)
         · rw [List.mem_singleton.1 ht];exact he.1
         · exact h.1.2 t (List.mem_of_mem_drop ht)
 · split
   · unfold Zad
     split
     · exact Fit.none
     · split
       · exact Fit.none
       · split
         · exact Fit.none
         · refine hset _ (by simp [Zc8]) _ ?_ fun t ht=>?_
           · have:=h.1.1;rw [List.length_append,List.length_take,List.length_drop];omega
           · rw [List.mem_append] at ht
             rcases ht with ht | ht
             · exact h.1.2 t (List.mem_of_mem_take ht)
             · exact h.1.2 t (List.mem_of_mem_drop ht)
   · split
     · unfold Za4
       split
       · exact Fit.none
       · split
         · exact Fit.none
         · refine hset _ he.1 _ ?_ fun t ht=>?_
           · have:=h.1.1;rw [List.length_set];omega
           · rcases List.mem_or_eq_of_mem_set ht with ht | ht
             · exact h.1.2 t ht
             · rw [ht];exact he.1
     · split
       · refine (Zgw (fun l h0=>?_) h).up
         unfold ZeR at h0 ⊢
         split at h0
         · rename_i hp;rw [if_pos hp,hp.length_eq];exact Nat.le_refl _
         · simp at h0
       · split
         · exact (Zgw (fun l h0=>by show (Zaf l _ _).1.length≤_;exact Zoh _ _ _) h).up
         · exact Fit.none
theorem Fit.step {n:Nat} {g:HistD} {e:EdD} (h:Fit n g) (he:Zeu e):Fit (n+1) (Zhh g e):=by
 unfold Zhh
 split
 · exact h.doH he
 · exact h.up
theorem Fit.play {l:List EdD} (hl:∀ e ∈ l,Zeu e):∀ i,i≤l.length→Fit i ((l.take i).foldl Zhh zeroH)
 | 0,_=>Fit.zero
 | i+1,hi=>by
   rw [ZF (by omega),List.foldl_append]
   exact (Fit.play hl i (by omega)).step (hl _ (ZB (by omega)))
end Go.Proofs.YtjhapicamnijnaaGreatDoor
