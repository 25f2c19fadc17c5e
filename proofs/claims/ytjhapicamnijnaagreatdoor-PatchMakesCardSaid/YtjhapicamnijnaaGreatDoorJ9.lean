/- Texts put together. No condition beyond those that each theorem says. -/
import Derived.Test.YtjhapicamnijnaaGreatDoorJ8
import Derived.Test.YtjhapicamnijnaaGreatDoorJ6
import Derived.Test.YtjhapicamnijnaaGreatDoorJ7
import Derived.Test.YtjhapicamnijnaaGreatDoorJ0
import Derived.Test.YtjhapicamnijnaaGreatDoorJ5
import Derived.Test.YtjhapicamnijnaaGreatDoorJ4
import Derived.Test.YtjhapicamnijnaaGreatDoorJ1
namespace Go.Proofs.YtjhapicamnijnaaGreatDoor
open Go Go.Gm
set_option linter.unusedVariables false
set_option linter.unusedSimpArgs false
set_option maxHeartbeats 4000000
set_option maxRecDepth 8000
theorem Zf2 {α β:Type} [Inhabited α] {f:α→Bool} {m:α→β} {l:List α} {i:Nat} {out:List β} (hq:out=((l.take i).filter f).map m) (hi:i<l.length) (hf:f (Go.Gm.nth l i)=true):out ++ [m (Go.Gm.nth l i)] = ((l.take (i+1)).filter f).map m:=by rw [ZeS hi true hf,hq];rfl
theorem ZgN {α β:Type} [Inhabited α] {f:α→Bool} {m:α→β} {l:List α} {i:Nat} {out:List β} (hq:out=((l.take i).filter f).map m) (hi:i<l.length) (hf:f (Go.Gm.nth l i)=false):out=((l.take (i+1)).filter f).map m:=by rw [ZeS hi false hf,hq];simp
theorem ZiM (g o:Zj):(Zm g o).length=g.txs.length:=by unfold Zm;rw [List.length_map]
theorem Zrb (g o:Zj) (hs:Zba g.txs) (ho:Zba o.txs):FnP Tryz.prog 40 [.agg (Zn g),.agg (Zn o)] (.sl ZF (Zat g o).flatten):=by
 refine FnP.mk Tryz.func40 rfl Tryz.ntmps40 rfl ?_
 intro B a w F hB hfr hS
 have hsl:=hs.1
 have hol:=ho.1
 have hsn:=ZiM g o
 have hon:=ZiM o g
 refine wp_seq ?_
 refine Zc hS (qx 101 r1 (qx 102 r1 (qC qZ))) hB [4,3,2] [102,101,0] (fun _=>rfl) (fun _=>rfl) fun τ a w F hS=>?_
 try dsimp only [RS.sub,SF.sub,CF.sub,csub,Anc.sub,List.map,zCF,Zn,rTx,Zx,ZO,rInt,rOp,rCmd,ZF,ZaN,ZR,ZA] at hS
 generalize τ 2=v2 at hS
 generalize τ 3=v3 at hS
 refine Zb (wp_seq ?_)
 refine Za hS (qC (qC (qC (qC (qC qZ))))) hB [9,8,7,6,5,4,3,2] [102,101,0] rfl rfl fun a w F hS=>Zb (wp_seq (wp_seq ?_))
 refine Za hS (qe 2 101 r1 r1 (qe 2 102 r1 r1 (qf (oP (ZnY g o hs ho) Tryz.func78 (Args.two (.pagg .t) (.pagg .t))) r2 qz (qu Tryz.underlying125 r1 (qJ qZ))))) hB [18,17,16,9,8,7,6,5,4,3,2] [102,101,0] rfl rfl fun a w F hS=>Zb (wp_block ?_)
 replace hS:=hS.fresh 50 rfl
 replace hS:=hS.turn 50 rfl (ZaC (T:=81) (sz:=1) (R:=ZF))
 replace hS:=hS.fresh 51 rfl
 replace hS:=hS.turn 51 rfl (ZaC (T:=81) (sz:=1) (R:=ZF))
 refine Zr (σ:=(Nat)×(Value)×(List ZQ)×(Value)×(List ZQ)) [2,3,4,7,8,9,16,17] [0,101,102] (fun s=>[(18,.pv (.int .i64 (s.1:Int))),(5,.pv (.is s.2.1)),(6,.pv (.is s.2.2.2.1))]) (fun s=>[(50,.ob (.val s.2.1) (Zu 81 1 ZF s.2.2.1)),(51,.ob (.val s.2.2.2.1) (Zu 81 1 ZF s.2.2.2.2))]) (fun s=>s.1≤(Zm g o).length∧(s.2.2.1=ZcW ((Zm g o).take s.1)∧s.2.2.2.2=ZeQ ((Zm g o).take s.1))) (fun s=>(Zm g o).length - s.1) ((0),(.slice none 0 0),([]),(.slice none 0 0),([])) hS ⟨rfl,rfl,rfl,rfl,rfl,rfl,rfl,rfl,rfl,rfl,rfl,trivial⟩ ⟨rfl,rfl,rfl,rfl,rfl,trivial⟩ ⟨Nat.zero_le _,⟨rfl,rfl⟩⟩ ?_
 clear hS;intro s a w F hC hS
 obtain ⟨i,va,oa,vb,ob⟩:=s
 try dsimp only at hC
 obtain ⟨F,hS⟩:=hS.nm [18,17,16,9,8,7,6,5,4,3,2] [102,101,51,50,0] rfl rfl
 try dsimp only at hS
 obtain ⟨hi,hq⟩:=hC
 obtain ⟨hoa,hob⟩:=hq
 have hloa:oa.length≤i:=by rw [hoa];exact Nat.le_trans (Zbf _ _ _) (by rw [List.length_take];omega)
 have hlob:ob.length≤i:=by rw [hob];exact Nat.le_trans (Zbf _ _ _) (by rw [List.length_take];omega)
 refine wp_seq ?_
 refine Za hS (qL r2) hB [19,18,17,16,9,8,7,6,5,4,3,2] [102,101,51,50,0] rfl rfl fun a w F hS=>Zb (wp_seq ?_)
 refine Zd hS rfl (fun hc0=>?_) (fun hc0=>?_)
 ·skip
  have hil:i<(Zm g o).length:=by simp at hc0;omega
  have hio:=hil
  refine wp_skip (Zb (wp_seq (wp_block (wp_seq ?_))))
  refine Zc hS (qy 6 Tryz.underlying125 r2 (qf (oR true 6 .t) r1 qz (qf (oH [.int .i64 0,.bool false,.slice none 0 0,.bool false,.bool false,.bool false] 103) trivial qz (qS 6 103 r2 r1 qZ)))) hB [18,17,16,11,9,8,7,6,5,4,3,2] [103,102,101,51,50,0] (fun _=>rfl) (fun _=>rfl) fun τ a w F hS=>?_
  try dsimp only [RS.sub,SF.sub,CF.sub,csub,Anc.sub,List.map,Zf,xL,xM,Nat.reduceAdd,xD,xE,xT,xU,xC,xN,zCF,ldSF,Zn,rTx,Zx,ZO,rInt,rOp,rCmd,ZF,ZaN,ZR,ZA] at hS
  generalize τ 11=v11 at hS
  try simp only [Int.toNat_natCast] at hS
  refine Zb (wp_seq (wp_seq ?_))
  refine Za hS (qg 4 103 r1 r1 (qa 103 r1 r1 (qf (o_not .t) r1 qz (qM rfl rfl (qv 5 103 rfl r2 r1 (qw 103 rfl r2 r1 (qf (ZK .t .t) r2 qz qZ))))))) hB [28,18,17,16,11,9,8,7,6,5,4,3,2] [103,102,101,51,50,0] rfl rfl fun a w F hS=>Zb ?_
  refine Zd hS rfl (fun hc1=>?_) (fun hc1=>?_)
  ·skip
   have kA:oa ++ [(fun s:ZY=>ZQ.plain s.t true) (Go.Gm.nth (Zm g o) i)] = ZcW ((Zm g o).take (i+1)):=Zf2 (f:=fun s:ZY=>!s.just && s.reads) (m:=fun s:ZY=>ZQ.plain s.t true) hoa hio (by simpa using hc1)
   refine Zc hS (qM rfl rfl (qg 0 103 r1 r1 (qf (oL true 3 103 .adr) r1 r1 (qf (oB [(0,.tmp 31),(1,_)] [.int .i64 0,.bool false,.slice none 0 0,.bool false] [(0,3),(3,1)] (.agg rfl .t (by kernel_rfl) (by kernel_rfl) (.one rfl .cb one_bool (by kernel_rfl) .nil))) r1 qz (qf (Zdy (p:=.agg [.int .i64 (Go.Gm.nth (Zm g o) i).t.id,.bool (Go.Gm.nth (Zm g o) i).t.done,.sl rOp (Go.Gm.nth (Zm g o) i).t.ops,.bool true]) Tryz.underlying130 (.pagg .t)) r1 qz (qf (Zk (sz:=1) (zs:=[.nilIface]) (r:=[(0,.tmp 33)]) (l:=[_]) Tryz.underlying78 (by kernel_rfl) (by kernel_rfl) (by kernel_rfl) (by kernel_rfl) rfl rfl (.one rfl .t ZdT (by kernel_rfl) .nil) rfl) r1 qz (qf (o_append (sz:=1) (bs:=16) 50 (.mk' Tryz.underlying78 (by kernel_rfl) (by kernel_rfl)) (by intro x;rfl) .is (.arr (l':=[ZQ.plain (Go.Gm.nth (Zm g o) i).t true]) .t) (by simp only [List.length_append,List.length_cons,List.length_nil];omega) (by decide)) ⟨rfl,rfl,trivial⟩ ⟨rfl,trivial⟩ (qN rfl rfl qZ)))))))) hB [18,17,16,11,9,8,7,6,5,4,3,2] [103,102,101,51,50,0] (fun _=>rfl) (fun _=>rfl) fun τ a w F hS=>?_
   try dsimp only [RS.sub,SF.sub,CF.sub,csub,Anc.sub,List.map,Zf,xL,xM,Nat.reduceAdd,xD,xE,xT,xU,xC,xN,zCF,ldSF,Zn,rTx,Zx,ZO,rInt,rOp,rCmd,ZF,ZaN,ZR,ZA] at hS
   generalize τ 35=v35 at hS
   refine Zb (wp_seq ?_)
   refine Za hS (qg 3 103 r1 r1 (qa 103 r1 r1 (qf (o_not .t) r1 qz qZ))) hB [38,18,17,16,11,9,8,7,6,5,4,3,2] [103,102,101,51,50,0] rfl rfl fun a w F hS=>Zb ?_
   refine Zd hS rfl (fun hc2=>?_) (fun hc2=>?_)
   ·skip
    have kB:ob ++ [(fun s:ZY=>ZQ.away s.t) (Go.Gm.nth (Zm g o) i)] = ZeQ ((Zm g o).take (i+1)):=Zf2 (f:=fun s:ZY=>!s.there) (m:=fun s:ZY=>ZQ.away s.t) hob hio (by simpa using hc2)
    refine Zc hS (qM rfl rfl (qg 0 103 r1 r1 (qf (oL true 3 103 .adr) r1 r1 (qf (oB [(0,.tmp 41)] [.int .i64 0,.bool false,.slice none 0 0] [(0,3)] (.agg rfl .t (by kernel_rfl) (by kernel_rfl) .nil)) r1 qz (qf (Zdy (p:=.agg [.int .i64 (Go.Gm.nth (Zm g o) i).t.id,.bool (Go.Gm.nth (Zm g o) i).t.done,.sl rOp (Go.Gm.nth (Zm g o) i).t.ops]) Tryz.underlying132 (.pagg .t)) r1 qz (qf (Zk (sz:=1) (zs:=[.nilIface]) (r:=[(0,.tmp 43)]) (l:=[_]) Tryz.underlying78 (by kernel_rfl) (by kernel_rfl) (by kernel_rfl) (by kernel_rfl) rfl rfl (.one rfl .t ZdT (by kernel_rfl) .nil) rfl) r1 qz (qf (o_append (sz:=1) (bs:=16) 51 (.mk' Tryz.underlying78 (by kernel_rfl) (by kernel_rfl)) (by intro x;rfl) .is (.arr (l':=[ZQ.away (Go.Gm.nth (Zm g o) i).t]) .t) (by simp only [List.length_append,List.length_cons,List.length_nil];omega) (by decide)) ⟨rfl,rfl,trivial⟩ ⟨rfl,trivial⟩ (qN rfl rfl qZ)))))))) hB [18,17,16,9,8,7,6,5,4,3,2] [103,102,101,51,50,0] (fun _=>rfl) (fun _=>rfl) fun τ a w F hS=>?_
    try dsimp only [RS.sub,SF.sub,CF.sub,csub,Anc.sub,List.map,Zf,xL,xM,Nat.reduceAdd,xD,xE,xT,xU,xC,xN,zCF,ldSF,Zn,rTx,Zx,ZO,rInt,rOp,rCmd,ZF,ZaN,ZR,ZA] at hS
    generalize τ 45=v45 at hS
    refine Zh (Zb ?_)
    refine Za hS (qp r1 (qM rfl rfl qZ)) hB [18,17,16,9,8,7,6,5,4,3,2] [103,102,101,51,50,0] rfl rfl fun a w F hS=>Zb ?_
    replace hS:=hS.ent (i:=18) (s':=.pv (.int .i64 ((i+1:Nat):Int))) rfl (.int (wrap_succ (by omega)))
    obtain ⟨F,hS⟩:=hS.nm [17,16,9,8,7,4,3,2,6,5,18] [102,101,0,51,50] rfl rfl
    exact ⟨((i+1),_,_,_,_),F,⟨by omega,⟨kA,kB⟩⟩,hS,by omega⟩
   have kB:ob=ZeQ ((Zm g o).take (i+1)):=ZgN (f:=fun s:ZY=>!s.there) (m:=fun s:ZY=>ZQ.away s.t) hob hio (by simpa using hc2)
   refine wp_skip (Zh (Zb ?_))
   refine Za hS (qp r1 (qM rfl rfl qZ)) hB [18,17,16,9,8,7,6,5,4,3,2] [103,102,101,51,50,0] rfl rfl fun a w F hS=>Zb ?_
   replace hS:=hS.ent (i:=18) (s':=.pv (.int .i64 ((i+1:Nat):Int))) rfl (.int (wrap_succ (by omega)))
   obtain ⟨F,hS⟩:=hS.nm [17,16,9,8,7,4,3,2,6,5,18] [102,101,0,51,50] rfl rfl
   exact ⟨((i+1),_,_,_,_),F,⟨by omega,⟨kA,kB⟩⟩,hS,by omega⟩
  have kA:oa=ZcW ((Zm g o).take (i+1)):=ZgN (f:=fun s:ZY=>!s.just && s.reads) (m:=fun s:ZY=>ZQ.plain s.t true) hoa hio (by simpa using hc1)
  refine wp_skip (Zb (wp_seq ?_))
  refine Za hS (qg 3 103 r1 r1 (qa 103 r1 r1 (qf (o_not .t) r1 qz qZ))) hB [38,18,17,16,11,9,8,7,6,5,4,3,2] [103,102,101,51,50,0] rfl rfl fun a w F hS=>Zb ?_
  refine Zd hS rfl (fun hc3=>?_) (fun hc3=>?_)
  ·skip
   have kB:ob ++ [(fun s:ZY=>ZQ.away s.t) (Go.Gm.nth (Zm g o) i)] = ZeQ ((Zm g o).take (i+1)):=Zf2 (f:=fun s:ZY=>!s.there) (m:=fun s:ZY=>ZQ.away s.t) hob hio (by simpa using hc3)
   refine Zc hS (qM rfl rfl (qg 0 103 r1 r1 (qf (oL true 3 103 .adr) r1 r1 (qf (oB [(0,.tmp 41)] [.int .i64 0,.bool false,.slice none 0 0] [(0,3)] (.agg rfl .t (by kernel_rfl) (by kernel_rfl) .nil)) r1 qz (qf (Zdy (p:=.agg [.int .i64 (Go.Gm.nth (Zm g o) i).t.id,.bool (Go.Gm.nth (Zm g o) i).t.done,.sl rOp (Go.Gm.nth (Zm g o) i).t.ops]) Tryz.underlying132 (.pagg .t)) r1 qz (qf (Zk (sz:=1) (zs:=[.nilIface]) (r:=[(0,.tmp 43)]) (l:=[_]) Tryz.underlying78 (by kernel_rfl) (by kernel_rfl) (by kernel_rfl) (by kernel_rfl) rfl rfl (.one rfl .t ZdT (by kernel_rfl) .nil) rfl) r1 qz (qf (o_append (sz:=1) (bs:=16) 51 (.mk' Tryz.underlying78 (by kernel_rfl) (by kernel_rfl)) (by intro x;rfl) .is (.arr (l':=[ZQ.away (Go.Gm.nth (Zm g o) i).t]) .t) (by simp only [List.length_append,List.length_cons,List.length_nil];omega) (by decide)) ⟨rfl,rfl,trivial⟩ ⟨rfl,trivial⟩ (qN rfl rfl qZ)))))))) hB [18,17,16,9,8,7,6,5,4,3,2] [103,102,101,51,50,0] (fun _=>rfl) (fun _=>rfl) fun τ a w F hS=>?_
   try dsimp only [RS.sub,SF.sub,CF.sub,csub,Anc.sub,List.map,Zf,xL,xM,Nat.reduceAdd,xD,xE,xT,xU,xC,xN,zCF,ldSF,Zn,rTx,Zx,ZO,rInt,rOp,rCmd,ZF,ZaN,ZR,ZA] at hS
   generalize τ 45=v45 at hS
   refine Zh (Zb ?_)
   refine Za hS (qp r1 (qM rfl rfl qZ)) hB [18,17,16,9,8,7,6,5,4,3,2] [103,102,101,51,50,0] rfl rfl fun a w F hS=>Zb ?_
   replace hS:=hS.ent (i:=18) (s':=.pv (.int .i64 ((i+1:Nat):Int))) rfl (.int (wrap_succ (by omega)))
   obtain ⟨F,hS⟩:=hS.nm [17,16,9,8,7,4,3,2,6,5,18] [102,101,0,51,50] rfl rfl
   exact ⟨((i+1),_,_,_,_),F,⟨by omega,⟨kA,kB⟩⟩,hS,by omega⟩
  have kB:ob=ZeQ ((Zm g o).take (i+1)):=ZgN (f:=fun s:ZY=>!s.there) (m:=fun s:ZY=>ZQ.away s.t) hob hio (by simpa using hc3)
  refine wp_skip (Zh (Zb ?_))
  refine Za hS (qp r1 (qM rfl rfl qZ)) hB [18,17,16,9,8,7,6,5,4,3,2] [103,102,101,51,50,0] rfl rfl fun a w F hS=>Zb ?_
  replace hS:=hS.ent (i:=18) (s':=.pv (.int .i64 ((i+1:Nat):Int))) rfl (.int (wrap_succ (by omega)))
  obtain ⟨F,hS⟩:=hS.nm [17,16,9,8,7,4,3,2,6,5,18] [102,101,0,51,50] rfl rfl
  exact ⟨((i+1),_,_,_,_),F,⟨by omega,⟨kA,kB⟩⟩,hS,by omega⟩
 have hil:i=(Zm g o).length:=by simp at hc0;omega
 have hqa:oa=ZcW (Zm g o):=by rw [hoa,hil,List.take_length]
 have hqb:ob=ZeQ (Zm g o):=by rw [hob,hil,List.take_length]
 subst hqa
 subst hqb
 refine wp_exit (Zi (Zi (Zo (Zb (wp_seq (wp_seq ?_))))))
 refine Za hS (qe 2 102 r1 r1 (qe 2 101 r1 r1 (qf (oP (ZnY o g ho hs) Tryz.func78 (Args.two (.pagg .t) (.pagg .t))) r2 qz (qu Tryz.underlying125 r1 (qJ qZ))))) hB [51,50,49,9,8,7,6,5,4] [102,101,51,50,0] rfl rfl fun a w F hS=>Zb (wp_block ?_)
 replace hS:=hS.fresh 52 rfl
 replace hS:=hS.turn 52 rfl (ZaC (T:=81) (sz:=1) (R:=ZF))
 replace hS:=hS.fresh 53 rfl
 replace hS:=hS.turn 53 rfl (ZaC (T:=81) (sz:=1) (R:=ZF))
 replace hS:=hS.fresh 54 rfl
 replace hS:=hS.turn 54 rfl (ZaC (T:=81) (sz:=1) (R:=ZF))
 refine Zr (σ:=(Nat)×(Value)×(List ZQ)×(Value)×(List ZQ)×(Value)×(List ZQ)) [4,5,6,49,50] [0,50,51,101,102] (fun s=>[(51,.pv (.int .i64 (s.1:Int))),(7,.pv (.is s.2.1)),(8,.pv (.is s.2.2.2.1)),(9,.pv (.is s.2.2.2.2.2.1))]) (fun s=>[(52,.ob (.val s.2.1) (Zu 81 1 ZF s.2.2.1)),(53,.ob (.val s.2.2.2.1) (Zu 81 1 ZF s.2.2.2.2.1)),(54,.ob (.val s.2.2.2.2.2.1) (Zu 81 1 ZF s.2.2.2.2.2.2))]) (fun s=>s.1≤(Zm o g).length∧(s.2.2.1=Zfh ((Zm o g).take s.1)∧s.2.2.2.2.1=Ze8 ((Zm o g).take s.1)∧s.2.2.2.2.2.2=ZdY ((Zm o g).take s.1))) (fun s=>(Zm o g).length - s.1) ((0),(.slice none 0 0),([]),(.slice none 0 0),([]),(.slice none 0 0),([])) hS ⟨rfl,rfl,rfl,rfl,rfl,rfl,rfl,rfl,rfl,trivial⟩ ⟨rfl,rfl,rfl,rfl,rfl,rfl,rfl,rfl,trivial⟩ ⟨Nat.zero_le _,⟨rfl,rfl,rfl⟩⟩ ?_
 clear hS;intro s a w F hC hS
 obtain ⟨i,vc,oc,vd,od,ve,oe⟩:=s
 try dsimp only at hC
 obtain ⟨F,hS⟩:=hS.nm [51,50,49,9,8,7,6,5,4] [102,101,54,53,52,51,50,0] rfl rfl
 try dsimp only at hS
 obtain ⟨hi,hq⟩:=hC
 obtain ⟨hoc,hod,hoe⟩:=hq
 have hloc:oc.length≤i:=by rw [hoc];exact Nat.le_trans (Zbf _ _ _) (by rw [List.length_take];omega)
 have hlod:od.length≤i:=by rw [hod];exact Nat.le_trans (Zbf _ _ _) (by rw [List.length_take];omega)
 have hloe:oe.length≤i:=by rw [hoe];exact Nat.le_trans (Zbf _ _ _) (by rw [List.length_take];omega)
 refine wp_seq ?_
 refine Za hS (qL r2) hB [52,51,50,49,9,8,7,6,5,4] [102,101,54,53,52,51,50,0] rfl rfl fun a w F hS=>Zb (wp_seq ?_)
 refine Zd hS rfl (fun hc4=>?_) (fun hc4=>?_)
 ·skip
  have hil:i<(Zm o g).length:=by simp at hc4;omega
  have hio:=hil
  refine wp_skip (Zb (wp_seq (wp_block (wp_seq ?_))))
  refine Zc hS (qy 6 Tryz.underlying125 r2 (qf (oR true 6 .t) r1 qz (qf (oH [.int .i64 0,.bool false,.slice none 0 0,.bool false,.bool false,.bool false] 104) trivial qz (qS 6 104 r2 r1 qZ)))) hB [51,50,49,13,9,8,7,6,5,4] [104,102,101,54,53,52,51,50,0] (fun _=>rfl) (fun _=>rfl) fun τ a w F hS=>?_
  try dsimp only [RS.sub,SF.sub,CF.sub,csub,Anc.sub,List.map,Zf,xL,xM,Nat.reduceAdd,xD,xE,xT,xU,xC,xN,zCF,ldSF,Zn,rTx,Zx,ZO,rInt,rOp,rCmd,ZF,ZaN,ZR,ZA] at hS
  generalize τ 13=v13 at hS
  try simp only [Int.toNat_natCast] at hS
  refine Zb (wp_seq (wp_block (wp_seq ?_)))
  refine Za hS (qg 4 104 r1 r1 (qa 104 r1 r1 (qN rfl rfl qZ))) hB [62,51,50,49,13,9,8,7,6,5,4] [104,102,101,54,53,52,51,50,0] rfl rfl fun a w F hS=>Zb ?_
  refine Zd hS rfl (fun hc5=>?_) (fun hc5=>?_)
  ·skip
   have hj:(Go.Gm.nth (Zm o g) i).just=true:=hc5
   have kC:oc=Zfh ((Zm o g).take (i+1)):=ZgN (f:=fun s:ZY=>!s.just && s.there) (m:=fun s:ZY=>ZQ.plain s.t true) hoc hio (by simp [hj])
   have kD:od=Ze8 ((Zm o g).take (i+1)):=ZgN (f:=fun s:ZY=>!s.just && !s.there) (m:=fun s:ZY=>ZQ.plain s.t false) hod hio (by simp [hj])
   have kE:oe=ZdY ((Zm o g).take (i+1)):=ZgN (f:=fun s:ZY=>!s.just && s.reads) (m:=fun s:ZY=>ZQ.whole s.t) hoe hio (by simp [hj])
   refine wp_exit ?_
   refine Zj1 (by decide) ?_
   refine Zi (Zo (Zb ?_))
   refine Za hS (qp r1 (qM rfl rfl qZ)) hB [51,50,49,9,8,7,6,5,4] [104,102,101,54,53,52,51,50,0] rfl rfl fun a w F hS=>Zb ?_
   replace hS:=hS.ent (i:=51) (s':=.pv (.int .i64 ((i+1:Nat):Int))) rfl (.int (wrap_succ (by omega)))
   obtain ⟨F,hS⟩:=hS.nm [50,49,6,5,4,9,8,7,51] [102,101,51,50,0,54,53,52] rfl rfl
   exact ⟨((i+1),_,_,_,_,_,_),F,⟨by omega,⟨kC,kD,kE⟩⟩,hS,by omega⟩
  have hj:(Go.Gm.nth (Zm o g) i).just=false:=hc5
  refine wp_seq ?_
  refine Za hS (qg 3 104 r1 r1 (qa 104 r1 r1 (qN rfl rfl qZ))) hB [65,51,50,49,13,9,8,7,6,5,4] [104,102,101,54,53,52,51,50,0] rfl rfl fun a w F hS=>Zb ?_
  refine Zd hS rfl (fun hc6=>?_) (fun hc6=>?_)
  ·skip
   have ht:(Go.Gm.nth (Zm o g) i).there=true:=hc6
   have kC:oc ++ [(fun s:ZY=>ZQ.plain s.t true) (Go.Gm.nth (Zm o g) i)] = Zfh ((Zm o g).take (i+1)):=Zf2 (f:=fun s:ZY=>!s.just && s.there) (m:=fun s:ZY=>ZQ.plain s.t true) hoc hio (by simp [hj,ht])
   have kD:od=Ze8 ((Zm o g).take (i+1)):=ZgN (f:=fun s:ZY=>!s.just && !s.there) (m:=fun s:ZY=>ZQ.plain s.t false) hod hio (by simp [hj,ht])
   refine Zc hS (qM rfl rfl (qg 0 104 r1 r1 (qf (oL true 3 104 .adr) r1 r1 (qf (oB [(0,.tmp 70),(1,_)] [.int .i64 0,.bool false,.slice none 0 0,.bool false] [(0,3),(3,1)] (.agg rfl .t (by kernel_rfl) (by kernel_rfl) (.one rfl .cb one_bool (by kernel_rfl) .nil))) r1 qz (qf (Zdy (p:=.agg [.int .i64 (Go.Gm.nth (Zm o g) i).t.id,.bool (Go.Gm.nth (Zm o g) i).t.done,.sl rOp (Go.Gm.nth (Zm o g) i).t.ops,.bool true]) Tryz.underlying130 (.pagg .t)) r1 qz (qf (Zk (sz:=1) (zs:=[.nilIface]) (r:=[(0,.tmp 72)]) (l:=[_]) Tryz.underlying78 (by kernel_rfl) (by kernel_rfl) (by kernel_rfl) (by kernel_rfl) rfl rfl (.one rfl .t ZdT (by kernel_rfl) .nil) rfl) r1 qz (qf (o_append (sz:=1) (bs:=16) 52 (.mk' Tryz.underlying78 (by kernel_rfl) (by kernel_rfl)) (by intro x;rfl) .is (.arr (l':=[ZQ.plain (Go.Gm.nth (Zm o g) i).t true]) .t) (by simp only [List.length_append,List.length_cons,List.length_nil];omega) (by decide)) ⟨rfl,rfl,trivial⟩ ⟨rfl,trivial⟩ (qN rfl rfl qZ)))))))) hB [51,50,49,13,9,8,7,6,5,4] [104,102,101,54,53,52,51,50,0] (fun _=>rfl) (fun _=>rfl) fun τ a w F hS=>?_
   try dsimp only [RS.sub,SF.sub,CF.sub,csub,Anc.sub,List.map,Zf,xL,xM,Nat.reduceAdd,xD,xE,xT,xU,xC,xN,zCF,ldSF,Zn,rTx,Zx,ZO,rInt,rOp,rCmd,ZF,ZaN,ZR,ZA] at hS
   generalize τ 74=v74 at hS
   refine Zh (Zb (wp_seq ?_))
   refine Za hS (qg 5 104 r1 r1 (qa 104 r1 r1 qZ)) hB [76,51,50,49,13,9,8,7,6,5,4] [104,102,101,54,53,52,51,50,0] rfl rfl fun a w F hS=>Zb ?_
   refine Zd hS rfl (fun hc7=>?_) (fun hc7=>?_)
   ·skip
    have hrd:(Go.Gm.nth (Zm o g) i).reads=true:=hc7
    have kE:oe ++ [(fun s:ZY=>ZQ.whole s.t) (Go.Gm.nth (Zm o g) i)] = ZdY ((Zm o g).take (i+1)):=Zf2 (f:=fun s:ZY=>!s.just && s.reads) (m:=fun s:ZY=>ZQ.whole s.t) hoe hio (by simp [hj,hrd])
    refine Zc hS (qM rfl rfl (qg 0 104 r1 r1 (qf (oL true 3 104 .adr) r1 r1 (qf (oB [(0,.tmp 79)] [.int .i64 0,.bool false,.slice none 0 0] [(0,3)] (.agg rfl .t (by kernel_rfl) (by kernel_rfl) .nil)) r1 qz (qf (Zdy (p:=.agg [.int .i64 (Go.Gm.nth (Zm o g) i).t.id,.bool (Go.Gm.nth (Zm o g) i).t.done,.sl rOp (Go.Gm.nth (Zm o g) i).t.ops]) Tryz.underlying133 (.pagg .t)) r1 qz (qf (Zk (sz:=1) (zs:=[.nilIface]) (r:=[(0,.tmp 81)]) (l:=[_]) Tryz.underlying78 (by kernel_rfl) (by kernel_rfl) (by kernel_rfl) (by kernel_rfl) rfl rfl (.one rfl .t ZdT (by kernel_rfl) .nil) rfl) r1 qz (qf (o_append (sz:=1) (bs:=16) 54 (.mk' Tryz.underlying78 (by kernel_rfl) (by kernel_rfl)) (by intro x;rfl) .is (.arr (l':=[ZQ.whole (Go.Gm.nth (Zm o g) i).t]) .t) (by simp only [List.length_append,List.length_cons,List.length_nil];omega) (by decide)) ⟨rfl,rfl,trivial⟩ ⟨rfl,trivial⟩ (qN rfl rfl qZ)))))))) hB [51,50,49,9,8,7,6,5,4] [104,102,101,54,53,52,51,50,0] (fun _=>rfl) (fun _=>rfl) fun τ a w F hS=>?_
    try dsimp only [RS.sub,SF.sub,CF.sub,csub,Anc.sub,List.map,Zf,xL,xM,Nat.reduceAdd,xD,xE,xT,xU,xC,xN,zCF,ldSF,Zn,rTx,Zx,ZO,rInt,rOp,rCmd,ZF,ZaN,ZR,ZA] at hS
    generalize τ 83=v83 at hS
    refine Zh (Zb ?_)
    refine Za hS (qp r1 (qM rfl rfl qZ)) hB [51,50,49,9,8,7,6,5,4] [104,102,101,54,53,52,51,50,0] rfl rfl fun a w F hS=>Zb ?_
    replace hS:=hS.ent (i:=51) (s':=.pv (.int .i64 ((i+1:Nat):Int))) rfl (.int (wrap_succ (by omega)))
    obtain ⟨F,hS⟩:=hS.nm [50,49,6,5,4,9,8,7,51] [102,101,51,50,0,54,53,52] rfl rfl
    exact ⟨((i+1),_,_,_,_,_,_),F,⟨by omega,⟨kC,kD,kE⟩⟩,hS,by omega⟩
   have hrd:(Go.Gm.nth (Zm o g) i).reads=false:=hc7
   have kE:oe=ZdY ((Zm o g).take (i+1)):=ZgN (f:=fun s:ZY=>!s.just && s.reads) (m:=fun s:ZY=>ZQ.whole s.t) hoe hio (by simp [hj,hrd])
   refine wp_skip (Zh (Zb ?_))
   refine Za hS (qp r1 (qM rfl rfl qZ)) hB [51,50,49,9,8,7,6,5,4] [104,102,101,54,53,52,51,50,0] rfl rfl fun a w F hS=>Zb ?_
   replace hS:=hS.ent (i:=51) (s':=.pv (.int .i64 ((i+1:Nat):Int))) rfl (.int (wrap_succ (by omega)))
   obtain ⟨F,hS⟩:=hS.nm [50,49,6,5,4,9,8,7,51] [102,101,51,50,0,54,53,52] rfl rfl
   exact ⟨((i+1),_,_,_,_,_,_),F,⟨by omega,⟨kC,kD,kE⟩⟩,hS,by omega⟩
  have ht:(Go.Gm.nth (Zm o g) i).there=false:=hc6
  have kC:oc=Zfh ((Zm o g).take (i+1)):=ZgN (f:=fun s:ZY=>!s.just && s.there) (m:=fun s:ZY=>ZQ.plain s.t true) hoc hio (by simp [hj,ht])
  have kD:od ++ [(fun s:ZY=>ZQ.plain s.t false) (Go.Gm.nth (Zm o g) i)] = Ze8 ((Zm o g).take (i+1)):=Zf2 (f:=fun s:ZY=>!s.just && !s.there) (m:=fun s:ZY=>ZQ.plain s.t false) hod hio (by simp [hj,ht])
  refine Zc hS (qM rfl rfl (qg 0 104 r1 r1 (qf (oL true 3 104 .adr) r1 r1 (qf (oB [(0,.tmp 57),(1,_)] [.int .i64 0,.bool false,.slice none 0 0,.bool false] [(0,3),(3,1)] (.agg rfl .t (by kernel_rfl) (by kernel_rfl) (.one rfl .cb one_bool (by kernel_rfl) .nil))) r1 qz (qf (Zdy (p:=.agg [.int .i64 (Go.Gm.nth (Zm o g) i).t.id,.bool (Go.Gm.nth (Zm o g) i).t.done,.sl rOp (Go.Gm.nth (Zm o g) i).t.ops,.bool false]) Tryz.underlying130 (.pagg .t)) r1 qz (qf (Zk (sz:=1) (zs:=[.nilIface]) (r:=[(0,.tmp 59)]) (l:=[_]) Tryz.underlying78 (by kernel_rfl) (by kernel_rfl) (by kernel_rfl) (by kernel_rfl) rfl rfl (.one rfl .t ZdT (by kernel_rfl) .nil) rfl) r1 qz (qf (o_append (sz:=1) (bs:=16) 53 (.mk' Tryz.underlying78 (by kernel_rfl) (by kernel_rfl)) (by intro x;rfl) .is (.arr (l':=[ZQ.plain (Go.Gm.nth (Zm o g) i).t false]) .t) (by simp only [List.length_append,List.length_cons,List.length_nil];omega) (by decide)) ⟨rfl,rfl,trivial⟩ ⟨rfl,trivial⟩ (qN rfl rfl qZ)))))))) hB [51,50,49,13,9,8,7,6,5,4] [104,102,101,54,53,52,51,50,0] (fun _=>rfl) (fun _=>rfl) fun τ a w F hS=>?_
  try dsimp only [RS.sub,SF.sub,CF.sub,csub,Anc.sub,List.map,Zf,xL,xM,Nat.reduceAdd,xD,xE,xT,xU,xC,xN,zCF,ldSF,Zn,rTx,Zx,ZO,rInt,rOp,rCmd,ZF,ZaN,ZR,ZA] at hS
  generalize τ 61=v61 at hS
  refine Zh (Zb (wp_seq ?_))
  refine Za hS (qg 5 104 r1 r1 (qa 104 r1 r1 qZ)) hB [76,51,50,49,13,9,8,7,6,5,4] [104,102,101,54,53,52,51,50,0] rfl rfl fun a w F hS=>Zb ?_
  refine Zd hS rfl (fun hc8=>?_) (fun hc8=>?_)
  ·skip
   have hrd:(Go.Gm.nth (Zm o g) i).reads=true:=hc8
   have kE:oe ++ [(fun s:ZY=>ZQ.whole s.t) (Go.Gm.nth (Zm o g) i)] = ZdY ((Zm o g).take (i+1)):=Zf2 (f:=fun s:ZY=>!s.just && s.reads) (m:=fun s:ZY=>ZQ.whole s.t) hoe hio (by simp [hj,hrd])
   refine Zc hS (qM rfl rfl (qg 0 104 r1 r1 (qf (oL true 3 104 .adr) r1 r1 (qf (oB [(0,.tmp 79)] [.int .i64 0,.bool false,.slice none 0 0] [(0,3)] (.agg rfl .t (by kernel_rfl) (by kernel_rfl) .nil)) r1 qz (qf (Zdy (p:=.agg [.int .i64 (Go.Gm.nth (Zm o g) i).t.id,.bool (Go.Gm.nth (Zm o g) i).t.done,.sl rOp (Go.Gm.nth (Zm o g) i).t.ops]) Tryz.underlying133 (.pagg .t)) r1 qz (qf (Zk (sz:=1) (zs:=[.nilIface]) (r:=[(0,.tmp 81)]) (l:=[_]) Tryz.underlying78 (by kernel_rfl) (by kernel_rfl) (by kernel_rfl) (by kernel_rfl) rfl rfl (.one rfl .t ZdT (by kernel_rfl) .nil) rfl) r1 qz (qf (o_append (sz:=1) (bs:=16) 54 (.mk' Tryz.underlying78 (by kernel_rfl) (by kernel_rfl)) (by intro x;rfl) .is (.arr (l':=[ZQ.whole (Go.Gm.nth (Zm o g) i).t]) .t) (by simp only [List.length_append,List.length_cons,List.length_nil];omega) (by decide)) ⟨rfl,rfl,trivial⟩ ⟨rfl,trivial⟩ (qN rfl rfl qZ)))))))) hB [51,50,49,9,8,7,6,5,4] [104,102,101,54,53,52,51,50,0] (fun _=>rfl) (fun _=>rfl) fun τ a w F hS=>?_
   try dsimp only [RS.sub,SF.sub,CF.sub,csub,Anc.sub,List.map,Zf,xL,xM,Nat.reduceAdd,xD,xE,xT,xU,xC,xN,zCF,ldSF,Zn,rTx,Zx,ZO,rInt,rOp,rCmd,ZF,ZaN,ZR,ZA] at hS
   generalize τ 83=v83 at hS
   refine Zh (Zb ?_)
   refine Za hS (qp r1 (qM rfl rfl qZ)) hB [51,50,49,9,8,7,6,5,4] [104,102,101,54,53,52,51,50,0] rfl rfl fun a w F hS=>Zb ?_
   replace hS:=hS.ent (i:=51) (s':=.pv (.int .i64 ((i+1:Nat):Int))) rfl (.int (wrap_succ (by omega)))
   obtain ⟨F,hS⟩:=hS.nm [50,49,6,5,4,9,8,7,51] [102,101,51,50,0,54,53,52] rfl rfl
   exact ⟨((i+1),_,_,_,_,_,_),F,⟨by omega,⟨kC,kD,kE⟩⟩,hS,by omega⟩
  have hrd:(Go.Gm.nth (Zm o g) i).reads=false:=hc8
  have kE:oe=ZdY ((Zm o g).take (i+1)):=ZgN (f:=fun s:ZY=>!s.just && s.reads) (m:=fun s:ZY=>ZQ.whole s.t) hoe hio (by simp [hj,hrd])
  refine wp_skip (Zh (Zb ?_))
  refine Za hS (qp r1 (qM rfl rfl qZ)) hB [51,50,49,9,8,7,6,5,4] [104,102,101,54,53,52,51,50,0] rfl rfl fun a w F hS=>Zb ?_
  replace hS:=hS.ent (i:=51) (s':=.pv (.int .i64 ((i+1:Nat):Int))) rfl (.int (wrap_succ (by omega)))
  obtain ⟨F,hS⟩:=hS.nm [50,49,6,5,4,9,8,7,51] [102,101,51,50,0,54,53,52] rfl rfl
  exact ⟨((i+1),_,_,_,_,_,_),F,⟨by omega,⟨kC,kD,kE⟩⟩,hS,by omega⟩
 have hil:i=(Zm o g).length:=by simp at hc4;omega
 have hqc:oc=Zfh (Zm o g):=by rw [hoc,hil,List.take_length]
 have hqd:od=Ze8 (Zm o g):=by rw [hod,hil,List.take_length]
 have hqe:oe=ZdY (Zm o g):=by rw [hoe,hil,List.take_length]
 subst hqc
 subst hqd
 subst hqe
 refine wp_exit (Zi (Zi (Zo (Zb (wp_seq ?_)))))
 obtain ⟨F,hS⟩:=hS.give 50 5 rfl rfl
 obtain ⟨F,hS⟩:=hS.nm [52,51,50,49,9,8,7,6,5,4] [102,101,54,53,52,51,0] rfl rfl
 obtain ⟨F,hS⟩:=hS.give 51 6 rfl rfl
 obtain ⟨F,hS⟩:=hS.nm [52,51,50,49,9,8,7,6,5,4] [102,101,54,53,52,0] rfl rfl
 obtain ⟨F,hS⟩:=hS.give 52 7 rfl rfl
 obtain ⟨F,hS⟩:=hS.nm [52,51,50,49,9,8,7,6,5,4] [102,101,54,53,0] rfl rfl
 obtain ⟨F,hS⟩:=hS.give 53 8 rfl rfl
 obtain ⟨F,hS⟩:=hS.nm [52,51,50,49,9,8,7,6,5,4] [102,101,54,0] rfl rfl
 obtain ⟨F,hS⟩:=hS.give 54 9 rfl rfl
 obtain ⟨F,hS⟩:=hS.nm [52,51,50,49,9,8,7,6,5,4] [102,101,0] rfl rfl
 refine Za hS (qM rfl rfl (qM rfl rfl (qM rfl rfl (qM rfl rfl (qM rfl rfl (qf (Zk (sz:=1) (zs:=[.slice none 0 0]) (r:=[(0,.tmp 85),(1,.tmp 86),(2,.tmp 87),(3,.tmp 88),(4,.tmp 89)]) (l:=[_,_,_,_,_]) Tryz.underlying185 (by kernel_rfl) (by kernel_rfl) (by kernel_rfl) (by kernel_rfl) rfl rfl (.one rfl .t one_sl (by kernel_rfl) (.one rfl .t one_sl (by kernel_rfl) (.one rfl .t one_sl (by kernel_rfl) (.one rfl .t one_sl (by kernel_rfl) (.one rfl .t one_sl (by kernel_rfl) .nil))))) rfl) r5 qz (qf (oP (Zpj [ZcW (Zm g o),ZeQ (Zm g o),Zfh (Zm o g),Ze8 (Zm o g),ZdY (Zm o g)] (by have h9:=Zdw g o;unfold Zat at h9;omega) (by simp)) Tryz.func79 (Args.one (.conv .t (Ent.arrSl (R:=ZaN) (l:=[ZcW (Zm g o),ZeQ (Zm g o),Zfh (Zm o g),Ze8 (Zm o g),ZdY (Zm o g)]) rfl)))) r1 qz (qN rfl rfl qZ)))))))) hB [4] [102,101,0] rfl rfl fun a w F hS=>Zb (wp_ret ?_)
 refine Zq hfr hS rfl rfl rfl .refl
theorem Zqf (t:TxD):FnP Tryz.prog 220 [.agg (rTx t)] (.agg (rTx t)):=by
 refine FnP.mk Tryz.func220 rfl Tryz.ntmps220 rfl ?_
 intro B a w F hB hfr hS
 refine wp_seq ?_
 refine Zc hS (qx 101 r1 (qf (oH [.int .i64 0,.bool false,.slice none 0 0] 102) trivial qz qZ)) hB [2,1] [102,101,0] (fun _=>rfl) (fun _=>rfl) fun τ a w F hS=>?_
 try dsimp only [RS.sub,SF.sub,CF.sub,csub,Anc.sub,List.map,zCF,Zn,rTx,Zx,ZO,rInt,rOp,rCmd,ZF,ZaN,ZR,ZA] at hS
 generalize τ 1=v1 at hS
 generalize τ 2=v2 at hS
 refine Zb (wp_seq ?_)
 refine Za hS (qg 0 101 r1 r1 (qf (oL true 3 101 .adr) r1 r1 (qs 3 102 r2 r1 qZ))) hB [2] [102,101,0] rfl rfl fun a w F hS=>Zb (wp_ret ?_)
 refine Zt hfr hS rfl (.cl 102 true 3 rfl rfl .nil) (.one (.aggU rfl rfl))
theorem ZpM (t:TxD) (b:Bool):FnP Tryz.prog 219 [.agg [.int .i64 t.id,.bool t.done,.sl rOp t.ops,.bool b]] (.agg (rTx t)):=by
 refine FnP.mk Tryz.func219 rfl Tryz.ntmps219 rfl ?_
 intro B a w F hB hfr hS
 refine wp_seq ?_
 refine Zc hS (qx 101 r1 (qf (oH [.int .i64 0,.bool false,.slice none 0 0] 102) trivial qz qZ)) hB [2,1] [102,101,0] (fun _=>rfl) (fun _=>rfl) fun τ a w F hS=>?_
 try dsimp only [RS.sub,SF.sub,CF.sub,csub,Anc.sub,List.map,zCF,Zn,rTx,Zx,ZO,rInt,rOp,rCmd,ZF,ZaN,ZR,ZA] at hS
 generalize τ 1=v1 at hS
 generalize τ 2=v2 at hS
 refine Zb (wp_seq ?_)
 refine Za hS (qg 0 101 r1 r1 (qf (oL true 3 101 .adr) r1 r1 (qs 3 102 r2 r1 qZ))) hB [2] [102,101,0] rfl rfl fun a w F hS=>Zb (wp_ret ?_)
 refine Zt hfr hS rfl (.cl 102 true 3 rfl rfl .nil) (.one (.aggU rfl rfl))
theorem ZpE (t:TxD):FnP Tryz.prog 221 [.agg (rTx t)] (.agg (rTx t)):=by
 refine FnP.mk Tryz.func221 rfl Tryz.ntmps221 rfl ?_
 intro B a w F hB hfr hS
 refine wp_seq ?_
 refine Zc hS (qx 101 r1 (qf (oH [.int .i64 0,.bool false,.slice none 0 0] 102) trivial qz qZ)) hB [2,1] [102,101,0] (fun _=>rfl) (fun _=>rfl) fun τ a w F hS=>?_
 try dsimp only [RS.sub,SF.sub,CF.sub,csub,Anc.sub,List.map,zCF,Zn,rTx,Zx,ZO,rInt,rOp,rCmd,ZF,ZaN,ZR,ZA] at hS
 generalize τ 1=v1 at hS
 generalize τ 2=v2 at hS
 refine Zb (wp_seq ?_)
 refine Za hS (qg 0 101 r1 r1 (qf (oL true 3 101 .adr) r1 r1 (qs 3 102 r2 r1 qZ))) hB [2] [102,101,0] rfl rfl fun a w F hS=>Zb (wp_ret ?_)
 refine Zt hfr hS rfl (.cl 102 true 3 rfl rfl .nil) (.one (.aggU rfl rfl))
theorem ZmA (t:TxD) (hl:t.ops.length≤1000):FnP Tryz.prog 41 [.ifc 132 (.agg (rTx t))] (.agg (rCmd (Zcz (.away t)))):=by
 refine FnP.mk Tryz.func41 rfl Tryz.ntmps41 rfl ?_
 intro B a w F hB hfr hS
 refine wp_seq ?_
 refine Zc hS (qf (oH [.int .i64 0,.int .i64 0,.bool false,.slice none 0 0,.int .i64 0,.slice none 0 0,.int .i64 0,.int .i64 0,.int .i64 0,.int .i64 0] 101) trivial qz qZ) hB [2,0] [101,0] (fun _=>rfl) (fun _=>rfl) fun τ a w F hS=>?_
 try dsimp only [RS.sub,SF.sub,CF.sub,csub,Anc.sub,List.map,zCF,Zn,rTx,Zx,ZO,rInt,rOp,rCmd,ZF,ZaN,ZR,ZA,Zcz,Zfd,Ze2,ZdU,bareT,zeroC,zeroT,rCmd] at hS
 generalize τ 2=v2 at hS
 refine Zb (wp_seq ?_)
 refine Zc hS (qM rfl rfl (qf (ZhV .t (Zqf t) Tryz.underlying132 (by kernel_rfl) Tryz.func220 rfl (by kernel_rfl)) r1 qz (qf (oH [.int .i64 0,.bool false,.slice none 0 0] 102) trivial qz (qf (oA 3 102 .same (.conv .t .agg)) r2 r1 qZ)))) hB [3,2,0] [102,101,0] (fun _=>rfl) (fun _=>rfl) fun τ a w F hS=>?_
 try dsimp only [RS.sub,SF.sub,CF.sub,csub,Anc.sub,List.map,Zf,xL,xM,Nat.reduceAdd,xD,xE,xT,xU,xC,xN,zCF,Zn,rTx,Zx,ZO,rInt,rOp,rCmd,ZF,ZaN,ZR,ZA,Zcz,Zfd,Ze2,ZdU,bareT,zeroC,zeroT,rCmd] at hS
 generalize τ 3=v3 at hS
 refine Zb (wp_seq ?_)
 replace hS:=hS.fresh 103 rfl
 refine Zc hS (qg 2 102 r1 r1 (qa 102 r1 r1 (qf (Za2 103 (Zdm t.ops (by omega)) Tryz.func29 rfl (by kernel_rfl) (Args.one .t) ZaO) r1 r1 (qg 2 102 r1 r1 (qf (Zad 102 .adr (by kernel_rfl) (by kernel_rfl)) r2 r1 qZ))))) hB [3,2,0] [103,102,101,0] (fun _=>rfl) (fun _=>rfl) fun τ a w F hS=>?_
 try dsimp only [RS.sub,SF.sub,CF.sub,csub,Anc.sub,List.map,Zf,xL,xM,Nat.reduceAdd,xD,xE,xT,xU,xC,xN,zCF,ldSF,Zn,rTx,Zx,ZO,rInt,rOp,rCmd,ZF,ZaN,ZR,ZA,Zcz,Zfd,Ze2,ZdU,bareT,zeroC,zeroT,rCmd] at hS
 generalize τ 10=v10 at hS
 obtain ⟨F,hS⟩:=hS.giveCell 103 102 2 rfl rfl rfl rfl rfl
 try dsimp only [List.set] at hS
 obtain ⟨F,hS⟩:=hS.nm [3,2,0] [102,101,0] rfl rfl
 refine Zb (wp_seq (wp_seq ?_))
 refine Za hS (qM rfl rfl qZ) hB [12,3,2] [102,101,0] rfl rfl fun a w F hS=>Zb (wp_block (wp_seq ?_))
 refine Za hS (qf (ZfC Tryz.underlying132 .t) r1 qz (qf (o_extract .t rfl) r1 qz (qf (o_extract .t rfl) r1 qz qZ))) hB [15,14,12,3,2] [102,101,0] rfl rfl fun a w F hS=>Zb ?_
 refine Zd hS rfl (fun hc0=>?_) (fun hc0=>?_)
 ·skip
  refine wp_seq ?_
  refine Zc hS (qf (oH [.int .i64 0,.bool false,.slice none 0 0] 104) trivial qz (qf (oA 3 104 .same (.conv .t .agg)) r2 r1 qZ)) hB [3,2] [104,102,101,0] (fun _=>rfl) (fun _=>rfl) fun τ a w F hS=>?_
  try dsimp only [RS.sub,SF.sub,CF.sub,csub,Anc.sub,List.map,Zf,xL,xM,Nat.reduceAdd,xD,xE,xT,xU,xC,xN,zCF,Zn,rTx,Zx,ZO,rInt,rOp,rCmd,ZF,ZaN,ZR,ZA,Zcz,Zfd,Ze2,ZdU,bareT,zeroC,zeroT,rCmd] at hS
  generalize τ 4=v4 at hS
  refine Zb (wp_seq ?_)
  refine Za hS (qg 0 102 r1 r1 (qa 102 r1 r1 (qf (oB [(0,_),(4,.tmp 17)] [.int .i64 0,.int .i64 0,.bool false,.slice none 0 0,.int .i64 0,.slice none 0 0,.int .i64 0,.int .i64 0,.int .i64 0,.int .i64 0] [(0,1),(1,3),(4,2),(6,1),(7,1),(8,1),(9,1)] (.one rfl qi one_int (by kernel_rfl) (.one rfl .t one_int (by kernel_rfl) .nil))) r1 qz (qs 10 101 r2 r1 qZ)))) hB [3,2] [104,102,101,0] rfl rfl fun a w F hS=>Zb (wp_ret (Zg (Ze ?_)))
  refine Zt hfr hS rfl (.cl 101 true 10 rfl rfl .nil) (.one (.aggLe rfl (by refine ⟨?_,?_,?_,?_,?_,?_,?_,?_,?_,?_,trivial⟩ <;> first | exact PVLe.refl | exact PVLe.nilSl)))
 cases hc0
theorem Zmo (t:TxD) (b:Bool) (hl:t.ops.length≤1000):FnP Tryz.prog 41 [.ifc 130 (.agg [.int .i64 t.id,.bool t.done,.sl rOp t.ops,.bool b])] (.agg (rCmd (Zcz (.plain t b)))):=by
 refine FnP.mk Tryz.func41 rfl Tryz.ntmps41 rfl ?_
 intro B a w F hB hfr hS
 refine wp_seq ?_
 refine Zc hS (qf (oH [.int .i64 0,.int .i64 0,.bool false,.slice none 0 0,.int .i64 0,.slice none 0 0,.int .i64 0,.int .i64 0,.int .i64 0,.int .i64 0] 101) trivial qz qZ) hB [2,0] [101,0] (fun _=>rfl) (fun _=>rfl) fun τ a w F hS=>?_
 try dsimp only [RS.sub,SF.sub,CF.sub,csub,Anc.sub,List.map,zCF,Zn,rTx,Zx,ZO,rInt,rOp,rCmd,ZF,ZaN,ZR,ZA,Zcz,Zfd,Ze2,ZdU,bareT,zeroC,zeroT,rCmd] at hS
 generalize τ 2=v2 at hS
 refine Zb (wp_seq ?_)
 refine Zc hS (qM rfl rfl (qf (ZhV .t (ZpM t b) Tryz.underlying130 (by kernel_rfl) Tryz.func219 rfl (by kernel_rfl)) r1 qz (qf (oH [.int .i64 0,.bool false,.slice none 0 0] 102) trivial qz (qf (oA 3 102 .same (.conv .t .agg)) r2 r1 qZ)))) hB [3,2,0] [102,101,0] (fun _=>rfl) (fun _=>rfl) fun τ a w F hS=>?_
 try dsimp only [RS.sub,SF.sub,CF.sub,csub,Anc.sub,List.map,Zf,xL,xM,Nat.reduceAdd,xD,xE,xT,xU,xC,xN,zCF,Zn,rTx,Zx,ZO,rInt,rOp,rCmd,ZF,ZaN,ZR,ZA,Zcz,Zfd,Ze2,ZdU,bareT,zeroC,zeroT,rCmd] at hS
 generalize τ 3=v3 at hS
 refine Zb (wp_seq ?_)
 replace hS:=hS.fresh 103 rfl
 refine Zc hS (qg 2 102 r1 r1 (qa 102 r1 r1 (qf (Za2 103 (Zdm t.ops (by omega)) Tryz.func29 rfl (by kernel_rfl) (Args.one .t) ZaO) r1 r1 (qg 2 102 r1 r1 (qf (Zad 102 .adr (by kernel_rfl) (by kernel_rfl)) r2 r1 qZ))))) hB [3,2,0] [103,102,101,0] (fun _=>rfl) (fun _=>rfl) fun τ a w F hS=>?_
 try dsimp only [RS.sub,SF.sub,CF.sub,csub,Anc.sub,List.map,Zf,xL,xM,Nat.reduceAdd,xD,xE,xT,xU,xC,xN,zCF,ldSF,Zn,rTx,Zx,ZO,rInt,rOp,rCmd,ZF,ZaN,ZR,ZA,Zcz,Zfd,Ze2,ZdU,bareT,zeroC,zeroT,rCmd] at hS
 generalize τ 10=v10 at hS
 obtain ⟨F,hS⟩:=hS.giveCell 103 102 2 rfl rfl rfl rfl rfl
 try dsimp only [List.set] at hS
 obtain ⟨F,hS⟩:=hS.nm [3,2,0] [102,101,0] rfl rfl
 refine Zb (wp_seq (wp_seq ?_))
 refine Za hS (qM rfl rfl qZ) hB [12,3,2] [102,101,0] rfl rfl fun a w F hS=>Zb (wp_block (wp_seq ?_))
 refine Za hS (qf (ZcJ (zs:=[.int .i64 0,.bool false,.slice none 0 0]) Tryz.underlying132 (by kernel_rfl) (by rfl) .t) r1 qz (qf (o_extract .t rfl) r1 qz (qf (o_extract .t rfl) r1 qz qZ))) hB [15,14,12,3,2] [102,101,0] rfl rfl fun a w F hS=>Zb ?_
 refine Zd hS rfl (fun hc0=>?_) (fun hc0=>?_)
 ·skip
  cases hc0
 refine wp_seq ?_
 refine Za hS (qf (ZfC Tryz.underlying130 .t) r1 qz (qf (o_extract .t rfl) r1 qz (qf (o_extract .t rfl) r1 qz qZ))) hB [21,20,3,2] [102,101,0] rfl rfl fun a w F hS=>Zb ?_
 refine Zd hS rfl (fun hc1=>?_) (fun hc1=>?_)
 ·skip
  refine wp_seq ?_
  refine Zc hS (qf (oH [.int .i64 0,.bool false,.slice none 0 0,.bool false] 104) trivial qz (qf (oA 4 104 .same (.conv .t .agg)) r2 r1 qZ)) hB [5,3,2] [104,102,101,0] (fun _=>rfl) (fun _=>rfl) fun τ a w F hS=>?_
  try dsimp only [RS.sub,SF.sub,CF.sub,csub,Anc.sub,List.map,Zf,xL,xM,Nat.reduceAdd,xD,xE,xT,xU,xC,xN,zCF,Zn,rTx,Zx,ZO,rInt,rOp,rCmd,ZF,ZaN,ZR,ZA,Zcz,Zfd,Ze2,ZdU,bareT,zeroC,zeroT,rCmd] at hS
  generalize τ 5=v5 at hS
  refine Zb (wp_seq (wp_seq ?_))
  refine Za hS (qg 3 104 r1 r1 (qa 104 r1 r1 (qf (o_not .t) r1 qz qZ))) hB [24,3,2] [104,102,101,0] rfl rfl fun a w F hS=>Zb ?_
  refine Zd hS rfl (fun hc2=>?_) (fun hc2=>?_)
  ·skip
   have hbb:b=false:=by simpa using hc2
   subst hbb
   refine wp_seq ?_
   refine Za hS (qe 3 102 r1 r1 (qf (oP (ZlM t (by omega)) Tryz.func27 (Args.one (.pagg .t))) r1 qz (qf (oB [(0,_),(1,.tmp 26)] [.int .i64 0,.int .i64 0,.bool false,.slice none 0 0,.int .i64 0,.slice none 0 0,.int .i64 0,.int .i64 0,.int .i64 0,.int .i64 0] [(0,1),(1,3),(4,2),(6,1),(7,1),(8,1),(9,1)] (.one rfl qi one_int (by kernel_rfl) (.agg rfl (.conv .t .agg) (by kernel_rfl) (by kernel_rfl) .nil))) r1 qz (qs 10 101 r2 r1 qZ)))) hB [3,2] [104,102,101,0] rfl rfl fun a w F hS=>Zb (wp_ret (Ze (Zg (Ze ?_))))
   refine Zt hfr hS rfl (.cl 101 true 10 rfl rfl .nil) (.one (.aggLe rfl (by refine ⟨?_,?_,?_,?_,?_,?_,?_,?_,?_,?_,trivial⟩ <;> first | exact PVLe.refl | exact PVLe.nilSl)))
  have hbb:b=true:=by simpa using hc2
  subst hbb
  refine wp_skip (Zb (wp_seq ?_))
  refine Za hS (qe 3 102 r1 r1 (qf (oP (ZlM t (by omega)) Tryz.func27 (Args.one (.pagg .t))) r1 qz (qf (oB [(0,_),(1,.tmp 29)] [.int .i64 0,.int .i64 0,.bool false,.slice none 0 0,.int .i64 0,.slice none 0 0,.int .i64 0,.int .i64 0,.int .i64 0,.int .i64 0] [(0,1),(1,3),(4,2),(6,1),(7,1),(8,1),(9,1)] (.one rfl qi one_int (by kernel_rfl) (.agg rfl (.conv .t .agg) (by kernel_rfl) (by kernel_rfl) .nil))) r1 qz (qs 10 101 r2 r1 qZ)))) hB [3,2] [104,102,101,0] rfl rfl fun a w F hS=>Zb (wp_ret (Zg (Ze ?_)))
  refine Zt hfr hS rfl (.cl 101 true 10 rfl rfl .nil) (.one (.aggLe rfl (by refine ⟨?_,?_,?_,?_,?_,?_,?_,?_,?_,?_,trivial⟩ <;> first | exact PVLe.refl | exact PVLe.nilSl)))
 cases hc1
theorem Zl6 (t:TxD) (hl:t.ops.length≤1000):FnP Tryz.prog 41 [.ifc 133 (.agg (rTx t))] (.agg (rCmd (Zcz (.whole t)))):=by
 refine FnP.mk Tryz.func41 rfl Tryz.ntmps41 rfl ?_
 intro B a w F hB hfr hS
 refine wp_seq ?_
 refine Zc hS (qf (oH [.int .i64 0,.int .i64 0,.bool false,.slice none 0 0,.int .i64 0,.slice none 0 0,.int .i64 0,.int .i64 0,.int .i64 0,.int .i64 0] 101) trivial qz qZ) hB [2,0] [101,0] (fun _=>rfl) (fun _=>rfl) fun τ a w F hS=>?_
 try dsimp only [RS.sub,SF.sub,CF.sub,csub,Anc.sub,List.map,zCF,Zn,rTx,Zx,ZO,rInt,rOp,rCmd,ZF,ZaN,ZR,ZA,Zcz,Zfd,Ze2,ZdU,bareT,zeroC,zeroT,rCmd] at hS
 generalize τ 2=v2 at hS
 refine Zb (wp_seq ?_)
 refine Zc hS (qM rfl rfl (qf (ZhV .t (ZpE t) Tryz.underlying133 (by kernel_rfl) Tryz.func221 rfl (by kernel_rfl)) r1 qz (qf (oH [.int .i64 0,.bool false,.slice none 0 0] 102) trivial qz (qf (oA 3 102 .same (.conv .t .agg)) r2 r1 qZ)))) hB [3,2,0] [102,101,0] (fun _=>rfl) (fun _=>rfl) fun τ a w F hS=>?_
 try dsimp only [RS.sub,SF.sub,CF.sub,csub,Anc.sub,List.map,Zf,xL,xM,Nat.reduceAdd,xD,xE,xT,xU,xC,xN,zCF,Zn,rTx,Zx,ZO,rInt,rOp,rCmd,ZF,ZaN,ZR,ZA,Zcz,Zfd,Ze2,ZdU,bareT,zeroC,zeroT,rCmd] at hS
 generalize τ 3=v3 at hS
 refine Zb (wp_seq ?_)
 replace hS:=hS.fresh 103 rfl
 refine Zc hS (qg 2 102 r1 r1 (qa 102 r1 r1 (qf (Za2 103 (Zdm t.ops (by omega)) Tryz.func29 rfl (by kernel_rfl) (Args.one .t) ZaO) r1 r1 (qg 2 102 r1 r1 (qf (Zad 102 .adr (by kernel_rfl) (by kernel_rfl)) r2 r1 qZ))))) hB [3,2,0] [103,102,101,0] (fun _=>rfl) (fun _=>rfl) fun τ a w F hS=>?_
 try dsimp only [RS.sub,SF.sub,CF.sub,csub,Anc.sub,List.map,Zf,xL,xM,Nat.reduceAdd,xD,xE,xT,xU,xC,xN,zCF,ldSF,Zn,rTx,Zx,ZO,rInt,rOp,rCmd,ZF,ZaN,ZR,ZA,Zcz,Zfd,Ze2,ZdU,bareT,zeroC,zeroT,rCmd] at hS
 generalize τ 10=v10 at hS
 obtain ⟨F,hS⟩:=hS.giveCell 103 102 2 rfl rfl rfl rfl rfl
 try dsimp only [List.set] at hS
 obtain ⟨F,hS⟩:=hS.nm [3,2,0] [102,101,0] rfl rfl
 refine Zb (wp_seq (wp_seq ?_))
 refine Za hS (qM rfl rfl qZ) hB [12,3,2] [102,101,0] rfl rfl fun a w F hS=>Zb (wp_block (wp_seq ?_))
 refine Za hS (qf (ZcJ (zs:=[.int .i64 0,.bool false,.slice none 0 0]) Tryz.underlying132 (by kernel_rfl) (by rfl) .t) r1 qz (qf (o_extract .t rfl) r1 qz (qf (o_extract .t rfl) r1 qz qZ))) hB [15,14,12,3,2] [102,101,0] rfl rfl fun a w F hS=>Zb ?_
 refine Zd hS rfl (fun hc0=>?_) (fun hc0=>?_)
 ·skip
  cases hc0
 refine wp_seq ?_
 refine Za hS (qf (ZcJ (zs:=[.int .i64 0,.bool false,.slice none 0 0,.bool false]) Tryz.underlying130 (by kernel_rfl) (by rfl) .t) r1 qz (qf (o_extract .t rfl) r1 qz (qf (o_extract .t rfl) r1 qz qZ))) hB [21,20,3,2] [102,101,0] rfl rfl fun a w F hS=>Zb ?_
 refine Zd hS rfl (fun hc1=>?_) (fun hc1=>?_)
 ·skip
  cases hc1
 refine wp_skip (Zh (Zb (wp_seq ?_)))
 refine Za hS (qe 3 102 r1 r1 (qf (oB [(0,_),(1,.tmp 31)] [.int .i64 0,.int .i64 0,.bool false,.slice none 0 0,.int .i64 0,.slice none 0 0,.int .i64 0,.int .i64 0,.int .i64 0,.int .i64 0] [(0,1),(1,3),(4,2),(6,1),(7,1),(8,1),(9,1)] (.one rfl qi one_int (by kernel_rfl) (.agg rfl .t (by kernel_rfl) (by kernel_rfl) .nil))) r1 qz (qs 10 101 r2 r1 qZ))) hB [2] [102,101,0] rfl rfl fun a w F hS=>Zb (wp_ret ?_)
 refine Zt hfr hS rfl (.cl 101 true 10 rfl rfl .nil) (.one (.aggLe rfl (by refine ⟨?_,?_,?_,?_,?_,?_,?_,?_,?_,?_,trivial⟩ <;> first | exact PVLe.refl | exact PVLe.nilSl)))
def Zts:ZQ→List OpD
 | .none=>[]
 | .away t=>t.ops
 | .plain t _=>t.ops
 | .whole t=>t.ops
theorem Zna (s:ZQ) (hn:s ≠ .none) (hl:(Zts s).length≤1000):FnP Tryz.prog 41 [ZA s] (.agg (rCmd (Zcz s))):=by
 cases s with
 | none=>exact absurd rfl hn
 | away t=>exact ZmA t hl
 | plain t b=>exact Zmo t b hl
 | whole t=>exact Zl6 t hl
theorem ZbK (g o:Zj) (n:Nat) (hn:n≤27) (hg0:Zex n g) (ho0:Zex n o):FnP Tryz.prog 16 [.agg (Zn g),.agg (Zn o)] (.tup [.sl rCmd (Zae g o).1,.int .i64 (Zae g o).2]):=by
 refine FnP.mk Tryz.func16 rfl Tryz.ntmps16 rfl ?_
 intro B a w F hB hfr hS
 have hst:=hg0.1.1
 have hso:=ho0.1.2
 have hos:=ho0.1.2.1
 have hsg:=hg0.1.1
 obtain ⟨hfn,hfl,hpl⟩:=hg0.first ho0 (by omega)
 have hfc:(ZX g o).length≤166:=by omega
 have hsf:=Zdw g o
 have hfs9:(List.map List.length (Zat g o)).sum=(Zat g o).flatten.length:=by rw [List.length_flatten]
 have hgl:=hg0.2.1
 have hol9:=ho0.2.1
 refine wp_seq ?_
 refine Zc hS (qx 101 r1 (qx 102 r1 (qC (qI qZ)))) hB [5,4,3,2] [102,101,0] (fun _=>rfl) (fun _=>rfl) fun τ a w F hS=>?_
 try dsimp only [RS.sub,SF.sub,CF.sub,csub,Anc.sub,List.map,zCF,Zn,rTx,Zx,ZO,rInt,rOp,rCmd,ZF,ZaN,ZR,ZA,Zff] at hS
 generalize τ 2=v2 at hS
 generalize τ 3=v3 at hS
 refine Zb (wp_seq (wp_seq ?_))
 refine Za hS (qe 2 101 r1 r1 (qf (oP (Zcj g hg0.1) Tryz.func7 (Args.one (.pagg .t))) r1 qz (qf (o_not .t) r1 qz (qM rfl rfl (qk rfl (fun h=>oL true 2 102 .is) r2 r1 (qk rfl (fun h=>oP (Zcj o ho0.1) Tryz.func7 (Args.one (.pagg (.w h)))) r2 qz (qk rfl (fun h=>o_not (.w h)) r2 qz (qf (Zao .t .t) r2 qz qZ)))))))) hB [25,5,4,3,2] [102,101,0] rfl rfl fun a w F hS=>Zb ?_
 refine Zd hS rfl (fun hc0=>?_) (fun hc0=>?_)
 ·skip
  have hr:¬ Zy g∨¬ Zy o:=by have h9:=hc0;simp at h9;first | exact h9 | exact Classical.or_iff_not_imp_left.2 (fun k=>h9 (Classical.not_not.1 k))
  refine wp_seq ?_
  refine Za hS (qC (qI qZ)) hB [5,4,3,2] [102,101,0] rfl rfl fun a w F hS=>Zb (wp_ret (Ze ?_))
  refine Zt hfr hS rfl (.tmp rfl (.tmp rfl .nil)) (.two (.trans .nilSl (.sl (by first | rw [Zee hr] | (rw [Zet hr,hq,hil,List.take_length])))) (.int (by first | rw [Zee hr] | rw [Zet hr])))
 have hr:¬ (¬ Zy g∨¬ Zy o):=by have h9:=hc0;simp at h9;first | exact h9 | simpa using h9
 refine wp_skip (Zb (wp_seq ?_))
 refine Za hS (qC qZ) hB [6,5,4,3,2] [102,101,0] rfl rfl fun a w F hS=>Zb (wp_seq (wp_seq ?_))
 refine Za hS (qe 2 101 r1 r1 (qe 2 102 r1 r1 (qf (oP (Zrb g o hst ho0.1.1) Tryz.func40 (Args.two (.pagg .t) (.pagg .t))) r2 qz (qu Tryz.underlying78 r1 (qJ qZ))))) hB [30,29,28,6,5,4,3,2] [102,101,0] rfl rfl fun a w F hS=>Zb (wp_block ?_)
 replace hS:=hS.fresh 50 rfl
 replace hS:=hS.turn 50 rfl (ZaC (T:=43) (sz:=10) (R:=rCmd))
 refine Zr (σ:=(Nat)×(Value)×(List CmdD)) [2,3,4,5,28,29] [0,101,102] (fun s=>[(30,.pv (.int .i64 (s.1:Int))),(6,.pv (.is s.2.1))]) (fun s=>[(50,.ob (.val s.2.1) (Zu 43 10 rCmd s.2.2))]) (fun s=>s.1≤(Zat g o).flatten.length∧(s.2.2=((Zat g o).flatten.take s.1).map Zcz)) (fun s=>(Zat g o).flatten.length - s.1) ((0),(.slice none 0 0),([])) hS ⟨rfl,rfl,rfl,rfl,rfl,rfl,rfl,rfl,trivial⟩ ⟨rfl,rfl,rfl,rfl,trivial⟩ ⟨Nat.zero_le _,rfl⟩ ?_
 clear hS;intro s a w F hC hS
 obtain ⟨i,v,out⟩:=s
 try dsimp only at hC
 obtain ⟨F,hS⟩:=hS.nm [30,29,28,6,5,4,3,2] [102,101,50,0] rfl rfl
 try dsimp only at hS
 obtain ⟨hi,hq⟩:=hC
 have hol:out.length≤i:=by rw [hq,List.length_map,List.length_take];omega
 refine wp_seq ?_
 refine Za hS (qL r2) hB [31,30,29,28,6,5,4,3,2] [102,101,50,0] rfl rfl fun a w F hS=>Zb (wp_seq ?_)
 refine Zd hS rfl (fun hc1=>?_) (fun hc1=>?_)
 ·skip
  have hil:i<(Zat g o).flatten.length:=by simp at hc1;omega
  have hio:=hil
  refine wp_skip (Zb (wp_seq (wp_block (wp_seq ?_))))
  refine Za hS (qy 1 Tryz.underlying78 r2 (qf (oR false 1 .t) r1 qz (qN rfl rfl qZ))) hB [30,29,28,8,6,5,4,3,2] [102,101,50,0] rfl rfl fun a w F hS=>?_
  try simp only [Int.toNat_natCast] at hS
  refine Zb ?_
  refine Zc hS (qM rfl rfl (qM rfl rfl (qf (oP (Zna (Go.Gm.nth (Zat g o).flatten i) (Zl4 (ZB hio)) (by have h9:=ZnI (n:=1000) (fun t ht=>Nat.le_trans (hg0.2.2 t ht) (by omega)) (fun t ht=>Nat.le_trans (ho0.2.2 t ht) (by omega)) (ZB hio);exact h9)) Tryz.func41 (Args.one .t)) r1 qz (qf (Zk (sz:=10) (zs:=[.int .i64 0,.int .i64 0,.bool false,.slice none 0 0,.int .i64 0,.slice none 0 0,.int .i64 0,.int .i64 0,.int .i64 0,.int .i64 0]) (r:=[(0,.tmp 36)]) (l:=[_,_,_,_,_,_,_,_,_,_]) Tryz.underlying28 (by kernel_rfl) (by kernel_rfl) (by kernel_rfl) (by kernel_rfl) rfl rfl (.agg rfl (.conv .t .agg) (by kernel_rfl) (by kernel_rfl) .nil) rfl) r1 qz (qf (o_append (sz:=10) (bs:=112) 50 (.mk' Tryz.underlying28 (by kernel_rfl) (by kernel_rfl)) (by intro x;rfl) .is (.arr (l':=[Zcz (Go.Gm.nth (Zat g o).flatten i)]) .t) (by simp only [List.length_append,List.length_cons,List.length_nil];omega) (by decide)) ⟨rfl,rfl,trivial⟩ ⟨rfl,trivial⟩ (qN rfl rfl qZ)))))) hB [30,29,28,6,5,4,3,2] [102,101,50,0] (fun _=>rfl) (fun _=>rfl) fun τ a w F hS=>?_
  try dsimp only [RS.sub,SF.sub,CF.sub,csub,Anc.sub,List.map,Zf,xL,xM,Nat.reduceAdd,xD,xE,xT,xU,xC,xN,zCF,Zn,rTx,Zx,ZO,rInt,rOp,rCmd,ZF,ZaN,ZR,ZA,Zff] at hS
  generalize τ 38=v38 at hS
  refine Zh (Zb ?_)
  refine Za hS (qp r1 (qM rfl rfl qZ)) hB [30,29,28,6,5,4,3,2] [102,101,50,0] rfl rfl fun a w F hS=>Zb ?_
  replace hS:=hS.ent (i:=30) (s':=.pv (.int .i64 ((i+1:Nat):Int))) rfl (.int (wrap_succ (by omega)))
  obtain ⟨F,hS⟩:=hS.nm [29,28,5,4,3,2,6,30] [102,101,0,50] rfl rfl
  exact ⟨((i+1),_,_),F,⟨by omega,(by rw [Zf0 hio,hq])⟩,hS,by omega⟩
 have hil:i=(Zat g o).flatten.length:=by simp at hc1;omega
 have hqe:out=ZX g o:=by rw [hq,hil,List.take_length,Zgv]
 subst hqe
 refine wp_exit (Zi (Zi (Zo (Zb (wp_seq ?_)))))
 refine Zc hS (qe 2 101 r1 r1 (qM rfl rfl (qf (Zeo 50 (Zpg v g (ZX g o) n hg0 hfn hfl) Tryz.func17 rfl (by kernel_rfl) (Args.two (.pagg .t) .t)) r2 r1 (qM rfl rfl (qf (o_extract .t rfl) r1 qz (qf (o_extract .t rfl) r1 qz (qf (o_extract .t rfl) r1 qz (qf (oH [.slice none 0 0,.slice none 0 0] 103) trivial qz (qf (oA 2 103 .same (.conv .t .agg)) r2 r1 (qN rfl rfl (qN rfl rfl qZ))))))))))) hB [9,6,5,4,3] [103,102,101,50,0] (fun _=>rfl) (fun _=>rfl) fun τ a w F hS=>?_
 try dsimp only [RS.sub,SF.sub,CF.sub,csub,Anc.sub,List.map,Zf,xL,xM,Nat.reduceAdd,xD,xE,xT,xU,xC,xN,zCF,ldSF,Zn,rTx,Zx,ZO,rInt,rOp,rCmd,ZF,ZaN,ZR,ZA,Zff] at hS
 generalize τ 9=v9 at hS
 refine Zb (wp_seq (wp_seq ?_))
 refine Za hS (qg 1 102 r1 r1 (qa 102 r1 r1 (qu Tryz.underlying23 r1 (qJ qZ)))) hB [50,49,48,9,6,5,4] [103,102,101,50,0] rfl rfl fun a w F hS=>Zb (wp_block ?_)
 refine Zr (σ:=(Nat)×(Value)×(List CmdD)) [4,5,9,48,49] [0,101,102,103] (fun s=>[(50,.pv (.int .i64 (s.1:Int))),(6,.pv (.is s.2.1))]) (fun s=>[(50,.ob (.val s.2.1) (Zu 43 10 rCmd s.2.2))]) (fun s=>s.1≤o.orders.length∧(s.2.2=ZX g o++(o.orders.take s.1).flatMap (mvC (playC g (ZX g o) 0).1))) (fun s=>o.orders.length - s.1) ((0),(v),((ZX g o))) hS ⟨rfl,rfl,rfl,rfl,rfl,rfl,rfl,trivial⟩ ⟨rfl,rfl,rfl,rfl,rfl,trivial⟩ ⟨Nat.zero_le _,(by simp)⟩ ?_
 clear hS;intro s a w F hC hS
 obtain ⟨i,v,out⟩:=s
 try dsimp only at hC
 obtain ⟨F,hS⟩:=hS.nm [50,49,48,9,6,5,4] [103,102,101,50,0] rfl rfl
 try dsimp only at hS
 obtain ⟨hi,hq⟩:=hC
 have hqo:=hq
 have hol:out.length≤200+1000*i:=by
   rw [hq,List.length_append]
   have h1:=ZoG (h:=(playC g (ZX g o) 0).1) hso i
   omega
 refine wp_seq ?_
 refine Za hS (qL r2) hB [51,50,49,48,9,6,5,4] [103,102,101,50,0] rfl rfl fun a w F hS=>Zb (wp_seq ?_)
 refine Zd hS rfl (fun hc2=>?_) (fun hc2=>?_)
 ·skip
  have hil:i<o.orders.length:=by simp at hc2;omega
  have hio:=hil
  have hoo:=hso.at hio
  have hsh:=Zgm (getO (playC g (ZX g o) 0).1.orders (Go.Gm.nth o.orders i).key) (Go.Gm.nth o.orders i).txs
  refine wp_skip (Zb (wp_seq (wp_block (wp_seq ?_))))
  refine Zc hS (qy 2 Tryz.underlying23 r2 (qf (oR true 2 .t) r1 qz (qf (oH [.int .i64 0,.slice none 0 0] 104) trivial qz (qS 2 104 r2 r1 qZ)))) hB [50,49,48,13,9,6,5,4] [104,103,102,101,50,0] (fun _=>rfl) (fun _=>rfl) fun τ a w F hS=>?_
  try dsimp only [RS.sub,SF.sub,CF.sub,csub,Anc.sub,List.map,Zf,xL,xM,Nat.reduceAdd,xD,xE,xT,xU,xC,xN,zCF,ldSF,Zn,rTx,Zx,ZO,rInt,rOp,rCmd,ZF,ZaN,ZR,ZA,Zff] at hS
  generalize τ 13=v13 at hS
  try simp only [Int.toNat_natCast] at hS
  refine Zb (wp_seq ?_)
  refine Zz hS (qe 2 103 r1 r1 (qg 0 104 r1 r1 (qa 104 r1 r1 (qf (oP (Zqe (playC g (ZX g o) 0).1 (Go.Gm.nth o.orders i).key hpl.2) Tryz.func43 (Args.two (.pagg .t) .t)) r2 qz (qg 1 104 r1 r1 (qa 104 r1 r1 (qf (oP (ZpT (getO (playC g (ZX g o) 0).1.orders (Go.Gm.nth o.orders i).key) (Go.Gm.nth o.orders i).txs (Nat.le_trans (Zpw hpl.2 _) (by omega)) (by omega)) Tryz.func42 (Args.two .t .t)) r2 qz (qM rfl rfl (qf (o_extract .t rfl) r1 qz (qf (o_extract .t rfl) r1 qz (qN rfl rfl (qN rfl rfl qZ)))))))))))) hB [50,49,48,14,13,9,6,5,4] [104,103,102,101,50,0] rfl rfl fun a w F hS=>?_
  try dsimp only [List.map,xD,xE,xT,xU,ldSF,Zn,rTx,Zx,ZO,rInt,rOp,rCmd,ZF,ZaN,ZR,ZA,Zff] at hS
  refine Zb (wp_seq ?_)
  refine Za hS (qM rfl rfl (qu Tryz.underlying83 r1 (qJ qZ))) hB [66,65,64,50,49,48,13,9,6,5,4] [104,103,102,101,50,0] rfl rfl fun a w F hS=>Zb (wp_block ?_)
  refine Zr (σ:=(Nat)×(Value)×(List CmdD)) [4,5,9,13,48,49,50,64,65] [0,101,102,103,104] (fun s=>[(66,.pv (.int .i64 (s.1:Int))),(6,.pv (.is s.2.1))]) (fun s=>[(50,.ob (.val s.2.1) (Zu 43 10 rCmd s.2.2))]) (fun s=>s.1≤(ZaY (getO (playC g (ZX g o) 0).1.orders (Go.Gm.nth o.orders i).key) (Go.Gm.nth o.orders i).txs).1.length∧(s.2.2=out++((ZaY (getO (playC g (ZX g o) 0).1.orders (Go.Gm.nth o.orders i).key) (Go.Gm.nth o.orders i).txs).1.take s.1).map (ZmD (Go.Gm.nth o.orders i).key))) (fun s=>(ZaY (getO (playC g (ZX g o) 0).1.orders (Go.Gm.nth o.orders i).key) (Go.Gm.nth o.orders i).txs).1.length - s.1) ((0),(v),(out)) hS ⟨rfl,rfl,rfl,rfl,rfl,rfl,rfl,rfl,rfl,rfl,rfl,trivial⟩ ⟨rfl,rfl,rfl,rfl,rfl,rfl,trivial⟩ ⟨Nat.zero_le _,(by simp)⟩ ?_
  clear hS;intro s a w F hC hS
  obtain ⟨k,v,out2⟩:=s
  try dsimp only at hC
  obtain ⟨F,hS⟩:=hS.nm [66,65,64,50,49,48,13,9,6,5,4] [104,103,102,101,50,0] rfl rfl
  try dsimp only at hS
  obtain ⟨hi,hq⟩:=hC
  have hq2:=hq
  have hol2:out2.length≤out.length+k:=by rw [hq2,List.length_append,List.length_map,List.length_take];omega
  refine wp_seq ?_
  refine Za hS (qL r2) hB [67,66,65,64,50,49,48,13,9,6,5,4] [104,103,102,101,50,0] rfl rfl fun a w F hS=>Zb (wp_seq ?_)
  refine Zd hS rfl (fun hc3=>?_) (fun hc3=>?_)
  ·skip
   have hil:k<(ZaY (getO (playC g (ZX g o) 0).1.orders (Go.Gm.nth o.orders i).key) (Go.Gm.nth o.orders i).txs).1.length:=by simp at hc3;omega
   have hko:=hil
   refine wp_skip (Zb (wp_seq (wp_block (wp_seq ?_))))
   refine Zc hS (qy 2 Tryz.underlying83 r2 (qf (oR true 2 .t) r1 qz (qf (oH [.int .i64 0,.int .i64 0] 105) trivial qz (qS 2 105 r2 r1 qZ)))) hB [66,65,64,50,49,48,17,13,9,6,5,4] [105,104,103,102,101,50,0] (fun _=>rfl) (fun _=>rfl) fun τ a w F hS=>?_
   try dsimp only [RS.sub,SF.sub,CF.sub,csub,Anc.sub,List.map,Zf,xL,xM,Nat.reduceAdd,xD,xE,xT,xU,xC,xN,zCF,ldSF,Zn,rTx,Zx,ZO,rInt,rOp,rCmd,ZF,ZaN,ZR,ZA,Zff] at hS
   generalize τ 17=v17 at hS
   try simp only [Int.toNat_natCast] at hS
   refine Zb ?_
   refine Zc hS (qM rfl rfl (qg 0 104 r1 r1 (qa 104 r1 r1 (qg 0 105 r1 r1 (qa 105 r1 r1 (qg 1 105 r1 r1 (qa 105 r1 r1 (qf (oB [(0,_),(3,.tmp 72),(4,.tmp 74),(5,.tmp 76)] [.int .i64 0,.int .i64 0,.bool false,.slice none 0 0,.int .i64 0,.slice none 0 0,.int .i64 0,.int .i64 0,.int .i64 0,.int .i64 0] [(0,1),(1,3),(4,2),(6,1),(7,1),(8,1),(9,1)] (.one rfl qi one_int (by kernel_rfl) (.one rfl .t one_int (by kernel_rfl) (.one rfl .t one_int (by kernel_rfl) (.one rfl .t one_int (by kernel_rfl) .nil))))) r3 qz (qf (Zk (sz:=10) (zs:=[.int .i64 0,.int .i64 0,.bool false,.slice none 0 0,.int .i64 0,.slice none 0 0,.int .i64 0,.int .i64 0,.int .i64 0,.int .i64 0]) (r:=[(0,.tmp 77)]) (l:=[_,_,_,_,_,_,_,_,_,_]) Tryz.underlying28 (by kernel_rfl) (by kernel_rfl) (by kernel_rfl) (by kernel_rfl) rfl rfl (.agg rfl .t (by kernel_rfl) (by kernel_rfl) .nil) rfl) r1 qz (qf (o_append (sz:=10) (bs:=112) 50 (.mk' Tryz.underlying28 (by kernel_rfl) (by kernel_rfl)) (by intro x;rfl) .is (.sl (.conv .t (entArr (l:=[.int .i64 5,.int .i64 0,.bool false,.is (.slice none 0 0),.int .i64 0,.is (.slice none 0 0),.int .i64 (Go.Gm.nth o.orders i).key,.int .i64 (Go.Gm.nth (ZaY (getO (playC g (ZX g o) 0).1.orders (Go.Gm.nth o.orders i).key) (Go.Gm.nth o.orders i).txs).1 k).key,.int .i64 (Go.Gm.nth (ZaY (getO (playC g (ZX g o) 0).1.orders (Go.Gm.nth o.orders i).key) (Go.Gm.nth o.orders i).txs).1 k).val,.int .i64 0]) (R:=rCmd) (l':=[ZmD (Go.Gm.nth o.orders i).key (Go.Gm.nth (ZaY (getO (playC g (ZX g o) 0).1.orders (Go.Gm.nth o.orders i).key) (Go.Gm.nth o.orders i).txs).1 k)]) rfl ⟨PVLe.refl,PVLe.refl,PVLe.refl,PVLe.nilSl,PVLe.refl,PVLe.nilSl,PVLe.refl,PVLe.refl,PVLe.refl,PVLe.refl,trivial⟩))) (by simp only [List.length_append,List.length_cons,List.length_nil];omega) (by decide)) ⟨rfl,rfl,trivial⟩ ⟨rfl,trivial⟩ (qN rfl rfl qZ))))))))))) hB [66,65,64,50,49,48,13,9,6,5,4] [105,104,103,102,101,50,0] (fun _=>rfl) (fun _=>rfl) fun τ a w F hS=>?_
   try dsimp only [RS.sub,SF.sub,CF.sub,csub,Anc.sub,List.map,Zf,xL,xM,Nat.reduceAdd,xD,xE,xT,xU,xC,xN,zCF,ldSF,Zn,rTx,Zx,ZO,rInt,rOp,rCmd,ZF,ZaN,ZR,ZA,Zff] at hS
   generalize τ 79=v79 at hS
   refine Zh (Zb ?_)
   refine Za hS (qp r1 (qM rfl rfl qZ)) hB [66,65,64,50,49,48,13,9,6,5,4] [105,104,103,102,101,50,0] rfl rfl fun a w F hS=>Zb ?_
   replace hS:=hS.ent (i:=66) (s':=.pv (.int .i64 ((k+1:Nat):Int))) rfl (.int (wrap_succ (by omega)))
   obtain ⟨F,hS⟩:=hS.nm [65,64,50,49,48,13,9,5,4,6,66] [104,103,102,101,0,50] rfl rfl
   exact ⟨((k+1),_,_),F,⟨by omega,(by rw [Zf0 hko,hq2,List.append_assoc])⟩,hS,by omega⟩
  have hil:k=(ZaY (getO (playC g (ZX g o) 0).1.orders (Go.Gm.nth o.orders i).key) (Go.Gm.nth o.orders i).txs).1.length:=by simp at hc3;omega
  have hil2:=hil
  refine wp_exit (Zi (Zi (Zo (Zh (Zb ?_)))))
  refine Za hS (qp r1 (qM rfl rfl qZ)) hB [50,49,48,9,6,5,4] [104,103,102,101,50,0] rfl rfl fun a w F hS=>Zb ?_
  replace hS:=hS.ent (i:=50) (s':=.pv (.int .i64 ((i+1:Nat):Int))) rfl (.int (wrap_succ (by omega)))
  obtain ⟨F,hS⟩:=hS.nm [49,48,9,5,4,6,50] [103,102,101,0,50] rfl rfl
  exact ⟨((i+1),_,(out2)),F,⟨by omega,(by rw [hq2,hil2,List.take_length];exact Zp7 hqo hio)⟩,hS,by omega⟩
 have hil:i=o.orders.length:=by simp at hc2;omega
 refine wp_exit (Zi (Zi (Zo (Zb (wp_seq ?_)))))
 refine Za hS (qM rfl rfl (qN rfl rfl (qI qZ))) hB [5,4] [103,102,101,50,0] rfl rfl fun a w F hS=>Zb (wp_ret ?_)
 obtain ⟨F,hS⟩:=hS.give 50 4 rfl rfl
 refine Zt hfr hS rfl (.tmp rfl (.tmp rfl .nil)) (.two (.sl (by first | rw [Zee hr] | (rw [Zet hr,hq,hil,List.take_length]))) (.int (by first | rw [Zee hr] | rw [Zet hr])))
theorem plA:Zex 12 (⟨[(⟨1,true,[⟨false,5,0,0⟩]⟩:TxD)],[⟨5,[1]⟩]⟩:Zj):=⟨by decide,by decide,by decide⟩
theorem plB:Zex 12 (⟨[(⟨2,true,[⟨false,5,0,0⟩]⟩:TxD)],[⟨5,[2]⟩]⟩:Zj):=⟨by decide,by decide,by decide⟩
theorem plX:Zex 12 (⟨[(⟨1,true,[⟨false,5,0,0⟩]⟩:TxD)],[]⟩:Zj):=⟨by decide,by decide,by decide⟩
theorem plc:Zae (⟨[(⟨1,true,[⟨false,5,0,0⟩]⟩:TxD)],[⟨5,[1]⟩]⟩:Zj) (⟨[(⟨2,true,[⟨false,5,0,0⟩]⟩:TxD)],[⟨5,[2]⟩]⟩:Zj)=(([Zfd (⟨1,true,[⟨false,5,0,0⟩]⟩:TxD),Ze2 (⟨2,true,[⟨false,5,0,0⟩]⟩:TxD)]:List CmdD),0):=by decide +kernel
theorem plm:playC (⟨[(⟨1,true,[⟨false,5,0,0⟩]⟩:TxD)],[⟨5,[1]⟩]⟩:Zj) ([Zfd (⟨1,true,[⟨false,5,0,0⟩]⟩:TxD),Ze2 (⟨2,true,[⟨false,5,0,0⟩]⟩:TxD)]:List CmdD) 0=((⟨[(⟨2,true,[⟨false,5,0,0⟩]⟩:TxD)],[⟨5,[2]⟩]⟩:Zj),2,0):=by decide +kernel
theorem plx:Zae (⟨[(⟨1,true,[⟨false,5,0,0⟩]⟩:TxD)],[⟨5,[1]⟩]⟩:Zj) (⟨[(⟨1,true,[⟨false,5,0,0⟩]⟩:TxD)],[]⟩:Zj)=([],5):=by decide +kernel
theorem pls:Zae (⟨[(⟨1,true,[⟨false,5,0,0⟩]⟩:TxD)],[⟨5,[1]⟩]⟩:Zj) (⟨[(⟨1,true,[⟨false,5,0,0⟩]⟩:TxD)],[⟨5,[1]⟩]⟩:Zj)=([],0):=by decide +kernel
theorem plz:playC (⟨[(⟨1,true,[⟨false,5,0,0⟩]⟩:TxD)],[⟨5,[1]⟩]⟩:Zj) ([({zeroC 3 with key:=0,id:=1} : CmdD),({zeroC 3 with key:=0,id:=1} : CmdD)]:List CmdD) 0=(zeroH,1,3):=by decide +kernel
theorem ZnL  : FnP Tryz.prog 15 [] (.bool true):=by
 refine FnP.mk Tryz.func15 rfl Tryz.ntmps15 rfl ?_
 intro B a w F hB hfr hS
 refine wp_seq ?_
 refine Za hS qB hB [0] [0] rfl rfl fun a w F hS=>Zb (wp_seq ?_)
 refine Zc hS (qf (oB [(1,_)] [.bool false,.int .i64 0,.int .i64 0,.int .i64 0] [(0,1),(1,1),(2,1),(3,1)] (.one rfl qi one_int (by kernel_rfl) .nil)) trivial qz (qf (Zk (sz:=4) (zs:=[.bool false,.int .i64 0,.int .i64 0,.int .i64 0]) (r:=[(0,.tmp 15)]) (l:=[_,_,_,_]) Tryz.underlying36 (by kernel_rfl) (by kernel_rfl) (by kernel_rfl) (by kernel_rfl) rfl rfl (.agg rfl .t (by kernel_rfl) (by kernel_rfl) .nil) rfl) r1 qz (qf (oB [(0,_),(1,_),(2,.tmp 16)] [.int .i64 0,.bool false,.slice none 0 0] [(0,1),(1,1),(2,1)] (.one rfl qi one_int (by kernel_rfl) (.one rfl .cb one_bool (by kernel_rfl) (.one rfl .t ZcM (by kernel_rfl) .nil)))) r1 qz (qf (Zk (sz:=3) (zs:=[.int .i64 0,.bool false,.slice none 0 0]) (r:=[(0,.tmp 17)]) (l:=[_,_,_]) Tryz.underlying22 (by kernel_rfl) (by kernel_rfl) (by kernel_rfl) (by kernel_rfl) rfl rfl (.agg rfl .t (by kernel_rfl) (by kernel_rfl) .nil) rfl) r1 qz (qf (Zk (sz:=1) (zs:=[.int .i64 0]) (r:=[(0,_)]) (l:=[_]) Tryz.underlying39 (by kernel_rfl) (by kernel_rfl) (by kernel_rfl) (by kernel_rfl) rfl rfl (.one rfl qi one_int (by kernel_rfl) .nil) rfl) trivial qz (qf (oB [(0,_),(1,.tmp 19)] [.int .i64 0,.slice none 0 0] [(0,1),(1,1)] (.one rfl qi one_int (by kernel_rfl) (.one rfl .t ZcM (by kernel_rfl) .nil))) r1 qz (qf (Zk (sz:=2) (zs:=[.int .i64 0,.slice none 0 0]) (r:=[(0,.tmp 20)]) (l:=[_,_]) Tryz.underlying23 (by kernel_rfl) (by kernel_rfl) (by kernel_rfl) (by kernel_rfl) rfl rfl (.agg rfl .t (by kernel_rfl) (by kernel_rfl) .nil) rfl) r1 qz (qf (oB [(0,.tmp 18),(1,.tmp 21)] [.slice none 0 0,.slice none 0 0] [(0,1),(1,1)] (.one rfl .t ZcM (by kernel_rfl) (.one rfl .t ZcM (by kernel_rfl) .nil))) r2 qz (qf (oH [.slice none 0 0,.slice none 0 0] 101) trivial qz (qS 2 101 r2 r1 qZ)))))))))) hB [1,0] [101,0] (fun _=>rfl) (fun _=>rfl) fun τ a w F hS=>?_
 try dsimp only [RS.sub,SF.sub,CF.sub,csub,Anc.sub,List.map,Zf,xL,xM,Nat.reduceAdd,xD,xE,xT,xU,xC,xN,zCF,Zn,rTx,Zx,ZO,rInt,rOp,rCmd,ZF,ZaN,ZR,ZA] at hS
 generalize τ 1=v1 at hS
 replace hS:=hS.turn 101 rfl (r':=.pt (.val v1) 25 [.pv (.sl rTx [(⟨1,true,[⟨false,5,0,0⟩]⟩:TxD)]),.pv (.sl Zx [⟨5,[1]⟩])]) (ZsS rfl rfl ⟨PVLe.arrSl (R:=rTx) (l':=[(⟨1,true,[⟨false,5,0,0⟩]⟩:TxD)]) rfl ⟨PVLe.refl,PVLe.refl,PVLe.arrSl (R:=rOp) (l':=[⟨false,5,0,0⟩]) rfl Zd0.refl,trivial⟩,PVLe.arrSl (R:=Zx) (l':=[⟨5,[1]⟩]) rfl ⟨PVLe.refl,PVLe.arrSl (R:=rInt) (l':=[1]) rfl Zd0.refl,trivial⟩,trivial⟩)
 obtain ⟨F,hS⟩:=hS.nm [1,0] [101,0] rfl rfl
 refine Zb (wp_seq ?_)
 refine Zc hS (qf (oB [(1,_)] [.bool false,.int .i64 0,.int .i64 0,.int .i64 0] [(0,1),(1,1),(2,1),(3,1)] (.one rfl qi one_int (by kernel_rfl) .nil)) trivial qz (qf (Zk (sz:=4) (zs:=[.bool false,.int .i64 0,.int .i64 0,.int .i64 0]) (r:=[(0,.tmp 23)]) (l:=[_,_,_,_]) Tryz.underlying36 (by kernel_rfl) (by kernel_rfl) (by kernel_rfl) (by kernel_rfl) rfl rfl (.agg rfl .t (by kernel_rfl) (by kernel_rfl) .nil) rfl) r1 qz (qf (oB [(0,_),(1,_),(2,.tmp 24)] [.int .i64 0,.bool false,.slice none 0 0] [(0,1),(1,1),(2,1)] (.one rfl qi one_int (by kernel_rfl) (.one rfl .cb one_bool (by kernel_rfl) (.one rfl .t ZcM (by kernel_rfl) .nil)))) r1 qz (qf (Zk (sz:=3) (zs:=[.int .i64 0,.bool false,.slice none 0 0]) (r:=[(0,.tmp 25)]) (l:=[_,_,_]) Tryz.underlying22 (by kernel_rfl) (by kernel_rfl) (by kernel_rfl) (by kernel_rfl) rfl rfl (.agg rfl .t (by kernel_rfl) (by kernel_rfl) .nil) rfl) r1 qz (qf (Zk (sz:=1) (zs:=[.int .i64 0]) (r:=[(0,_)]) (l:=[_]) Tryz.underlying39 (by kernel_rfl) (by kernel_rfl) (by kernel_rfl) (by kernel_rfl) rfl rfl (.one rfl qi one_int (by kernel_rfl) .nil) rfl) trivial qz (qf (oB [(0,_),(1,.tmp 27)] [.int .i64 0,.slice none 0 0] [(0,1),(1,1)] (.one rfl qi one_int (by kernel_rfl) (.one rfl .t ZcM (by kernel_rfl) .nil))) r1 qz (qf (Zk (sz:=2) (zs:=[.int .i64 0,.slice none 0 0]) (r:=[(0,.tmp 28)]) (l:=[_,_]) Tryz.underlying23 (by kernel_rfl) (by kernel_rfl) (by kernel_rfl) (by kernel_rfl) rfl rfl (.agg rfl .t (by kernel_rfl) (by kernel_rfl) .nil) rfl) r1 qz (qf (oB [(0,.tmp 26),(1,.tmp 29)] [.slice none 0 0,.slice none 0 0] [(0,1),(1,1)] (.one rfl .t ZcM (by kernel_rfl) (.one rfl .t ZcM (by kernel_rfl) .nil))) r2 qz (qf (oH [.slice none 0 0,.slice none 0 0] 102) trivial qz (qS 2 102 r2 r1 qZ)))))))))) hB [2,1,0] [102,101,0] (fun _=>rfl) (fun _=>rfl) fun τ a w F hS=>?_
 try dsimp only [RS.sub,SF.sub,CF.sub,csub,Anc.sub,List.map,Zf,xL,xM,Nat.reduceAdd,xD,xE,xT,xU,xC,xN,zCF,Zn,rTx,Zx,ZO,rInt,rOp,rCmd,ZF,ZaN,ZR,ZA] at hS
 generalize τ 2=v2 at hS
 replace hS:=hS.turn 102 rfl (r':=.pt (.val v2) 25 [.pv (.sl rTx [(⟨2,true,[⟨false,5,0,0⟩]⟩:TxD)]),.pv (.sl Zx [⟨5,[2]⟩])]) (ZsS rfl rfl ⟨PVLe.arrSl (R:=rTx) (l':=[(⟨2,true,[⟨false,5,0,0⟩]⟩:TxD)]) rfl ⟨PVLe.refl,PVLe.refl,PVLe.arrSl (R:=rOp) (l':=[⟨false,5,0,0⟩]) rfl Zd0.refl,trivial⟩,PVLe.arrSl (R:=Zx) (l':=[⟨5,[2]⟩]) rfl ⟨PVLe.refl,PVLe.arrSl (R:=rInt) (l':=[2]) rfl Zd0.refl,trivial⟩,trivial⟩)
 obtain ⟨F,hS⟩:=hS.nm [2,1,0] [102,101,0] rfl rfl
 refine Zb (wp_seq ?_)
 refine Za hS (qe 2 101 r1 r1 (qe 2 102 r1 r1 (qf (oP (ZbK (⟨[(⟨1,true,[⟨false,5,0,0⟩]⟩:TxD)],[⟨5,[1]⟩]⟩:Zj) (⟨[(⟨2,true,[⟨false,5,0,0⟩]⟩:TxD)],[⟨5,[2]⟩]⟩:Zj) 12 (by decide) plA plB) Tryz.func16 (Args.two (.pagg .t) (.pagg .t))) r2 qz (qM rfl rfl (qf (o_extract .t rfl) r1 qz (qf (o_extract .t rfl) r1 qz (qN rfl rfl (qN rfl rfl qZ)))))))) hB [4,3,2,1,0] [102,101,0] rfl rfl fun a w F hS=>?_
 rw [plc] at hS
 dsimp only at hS
 refine Zb (wp_seq ?_)
 refine Zc hS (qe 2 101 r1 r1 (qM rfl rfl (qf (oP (Znf (⟨[(⟨1,true,[⟨false,5,0,0⟩]⟩:TxD)],[⟨5,[1]⟩]⟩:Zj) ([Zfd (⟨1,true,[⟨false,5,0,0⟩]⟩:TxD),Ze2 (⟨2,true,[⟨false,5,0,0⟩]⟩:TxD)]:List CmdD) 12 plA (by decide) (by decide)) Tryz.func17 (Args.two (.pagg .t) .t)) r2 qz (qM rfl rfl (qf (o_extract .t rfl) r1 qz (qf (o_extract .t rfl) r1 qz (qf (o_extract .t rfl) r1 qz (qf (oH [.slice none 0 0,.slice none 0 0] 103) trivial qz (qf (oA 2 103 .same (.conv .t .agg)) r2 r1 (qN rfl rfl (qN rfl rfl qZ))))))))))) hB [7,6,5,4,3,2,1,0] [103,102,101,0] (fun _=>rfl) (fun _=>rfl) fun τ a w F hS=>?_
 try dsimp only [RS.sub,SF.sub,CF.sub,csub,Anc.sub,List.map,Zf,xL,xM,Nat.reduceAdd,xD,xE,xT,xU,xC,xN,zCF,ldSF,Zn,rTx,Zx,ZO,rInt,rOp,rCmd,ZF,ZaN,ZR,ZA] at hS
 generalize τ 5=v5 at hS
 rw [plm] at hS
 dsimp only at hS
 refine Zb (wp_seq ?_)
 refine Za hS (qe 2 101 r1 r1 (qg 0 101 r1 r1 (qa 101 r1 r1 (qf (oB [(0,.tmp 47)] [.slice none 0 0,.slice none 0 0] [(0,1),(1,1)] (.one rfl .t one_sl (by kernel_rfl) .nil)) r1 qz (qf (oP (ZbK (⟨[(⟨1,true,[⟨false,5,0,0⟩]⟩:TxD)],[⟨5,[1]⟩]⟩:Zj) (⟨[(⟨1,true,[⟨false,5,0,0⟩]⟩:TxD)],[]⟩:Zj) 12 (by decide) plA plX) Tryz.func16 (Args.two (.pagg .t) (.conv (.pagg .t) (Ent.paggLe (l:=[.sl rTx [(⟨1,true,[⟨false,5,0,0⟩]⟩:TxD)],.is (.slice none 0 0)]) (l':=Zn (⟨[(⟨1,true,[⟨false,5,0,0⟩]⟩:TxD)],[]⟩:Zj)) ⟨PVLe.refl,PVLe.nilSl,trivial⟩)))) r2 qz (qM rfl rfl (qf (o_extract .t rfl) r1 qz (qf (o_extract .t rfl) r1 qz (qN rfl rfl (qN rfl rfl qZ)))))))))) hB [9,7,6,5,4,3,2,1,0] [103,102,101,0] rfl rfl fun a w F hS=>?_
 rw [plx] at hS
 dsimp only at hS
 refine Zb (wp_seq ?_)
 refine Za hS (qe 2 101 r1 r1 (qe 2 101 r1 r1 (qf (oP (ZbK (⟨[(⟨1,true,[⟨false,5,0,0⟩]⟩:TxD)],[⟨5,[1]⟩]⟩:Zj) (⟨[(⟨1,true,[⟨false,5,0,0⟩]⟩:TxD)],[⟨5,[1]⟩]⟩:Zj) 12 (by decide) plA plA) Tryz.func16 (Args.two (.pagg .t) (.pagg .t))) r2 qz (qM rfl rfl (qf (o_extract .t rfl) r1 qz (qf (o_extract .t rfl) r1 qz (qN rfl rfl (qN rfl rfl qZ)))))))) hB [11,10,9,7,6,5,4,3,2,1,0] [103,102,101,0] rfl rfl fun a w F hS=>?_
 rw [pls] at hS
 dsimp only at hS
 refine Zb (wp_seq ?_)
 refine Zc hS (qe 2 101 r1 r1 (qf (oB [(0,_),(4,_)] [.int .i64 0,.int .i64 0,.bool false,.slice none 0 0,.int .i64 0,.slice none 0 0,.int .i64 0,.int .i64 0,.int .i64 0,.int .i64 0] [(0,1),(1,3),(4,2),(6,1),(7,1),(8,1),(9,1)] (.one rfl qi one_int (by kernel_rfl) (.one rfl qi one_int (by kernel_rfl) .nil))) trivial qz (qf (oB [(0,_),(4,_)] [.int .i64 0,.int .i64 0,.bool false,.slice none 0 0,.int .i64 0,.slice none 0 0,.int .i64 0,.int .i64 0,.int .i64 0,.int .i64 0] [(0,1),(1,3),(4,2),(6,1),(7,1),(8,1),(9,1)] (.one rfl qi one_int (by kernel_rfl) (.one rfl qi one_int (by kernel_rfl) .nil))) trivial qz (qf (Zk (sz:=10) (zs:=[.int .i64 0,.int .i64 0,.bool false,.slice none 0 0,.int .i64 0,.slice none 0 0,.int .i64 0,.int .i64 0,.int .i64 0,.int .i64 0]) (r:=[(0,.tmp 60),(1,.tmp 61)]) (l:=[_,_,_,_,_,_,_,_,_,_,_,_,_,_,_,_,_,_,_,_]) Tryz.underlying28 (by kernel_rfl) (by kernel_rfl) (by kernel_rfl) (by kernel_rfl) rfl rfl (.agg rfl .t (by kernel_rfl) (by kernel_rfl) (.agg rfl .t (by kernel_rfl) (by kernel_rfl) .nil)) rfl) r2 qz (qf (oP (Znf (⟨[(⟨1,true,[⟨false,5,0,0⟩]⟩:TxD)],[⟨5,[1]⟩]⟩:Zj) ([({zeroC 3 with key:=0,id:=1} : CmdD),({zeroC 3 with key:=0,id:=1} : CmdD)]:List CmdD) 12 plA (by decide) (by decide)) Tryz.func17 (Args.two (.pagg .t) (.conv .t (entArr (l:=[.int .i64 3,.int .i64 0,.bool false,.is (.slice none 0 0),.int .i64 0,.is (.slice none 0 0),.int .i64 0,.int .i64 1,.int .i64 0,.int .i64 0,.int .i64 3,.int .i64 0,.bool false,.is (.slice none 0 0),.int .i64 0,.is (.slice none 0 0),.int .i64 0,.int .i64 1,.int .i64 0,.int .i64 0]) (R:=rCmd) (l':=[({zeroC 3 with key:=0,id:=1} : CmdD),({zeroC 3 with key:=0,id:=1} : CmdD)]) rfl ⟨PVLe.refl,PVLe.refl,PVLe.refl,PVLe.nilSl,PVLe.refl,PVLe.nilSl,PVLe.refl,PVLe.refl,PVLe.refl,PVLe.refl,PVLe.refl,PVLe.refl,PVLe.refl,PVLe.nilSl,PVLe.refl,PVLe.nilSl,PVLe.refl,PVLe.refl,PVLe.refl,PVLe.refl,trivial⟩)))) r2 qz (qM rfl rfl (qf (o_extract .t rfl) r1 qz (qf (o_extract .t rfl) r1 qz (qf (o_extract .t rfl) r1 qz (qf (oH [.slice none 0 0,.slice none 0 0] 104) trivial qz (qf (oA 2 104 .same (.conv .t .agg)) r2 r1 (qN rfl rfl (qN rfl rfl qZ))))))))))))) hB [14,13,11,10,9,7,6,5,4,3,2,0] [104,103,102,101,0] (fun _=>rfl) (fun _=>rfl) fun τ a w F hS=>?_
 try dsimp only [RS.sub,SF.sub,CF.sub,csub,Anc.sub,List.map,Zf,xL,xM,Nat.reduceAdd,xD,xE,xT,xU,xC,xN,zCF,ldSF,Zn,rTx,Zx,ZO,rInt,rOp,rCmd,ZF,ZaN,ZR,ZA] at hS
 generalize τ 12=v12 at hS
 rw [plz] at hS
 dsimp only at hS
 refine Zb (wp_seq ?_)
 refine ZdJ hS (by kernel_rfl) (nM rfl rfl (nf (o_eql .t (.ci (by kernel_rfl))) r1 trivial (nM rfl rfl (nm rfl rfl rfl rfl (nk rfl (fun h=>ZaM Tryz.underlying28 (.w h)) r2 trivial (nk rfl (fun h=>o_eql (.w h) (.ci (by kernel_rfl))) r2 trivial (nf (ZK .t .t) r2 trivial (nM rfl rfl (nm rfl rfl rfl rfl (nk rfl (fun h=>o_indexAddr_sl (sz:=10) (.mk Tryz.underlying28 (by kernel_rfl)) (by intro x;rfl) (.w h) (.ci (by kernel_rfl)) (by decide) (by decide)) r2 trivial (nk rfl (fun h=>ZbG (off:=0) (.w h) (by kernel_rfl)) r2 trivial (nk rfl (fun h=>ZeE (ag:=false) (sz:=1) (.w h) (by kernel_rfl) (by kernel_rfl) (by kernel_rfl)) r2 trivial (nk rfl (fun h=>o_eql (.w h) (.ci (by kernel_rfl))) r2 trivial (nf (ZK .t .t) r2 trivial (nM rfl rfl (nm rfl rfl rfl rfl (nk rfl (fun h=>o_indexAddr_sl (sz:=10) (.mk Tryz.underlying28 (by kernel_rfl)) (by intro x;rfl) (.w h) (.ci (by kernel_rfl)) (by decide) (by decide)) r2 trivial (nk rfl (fun h=>ZbG (off:=0) (.w h) (by kernel_rfl)) r2 trivial (nk rfl (fun h=>ZeE (ag:=false) (sz:=1) (.w h) (by kernel_rfl) (by kernel_rfl) (by kernel_rfl)) r2 trivial (nk rfl (fun h=>o_eql (.w h) (.ci (by kernel_rfl))) r2 trivial (nn [86,81,14,13,11,10,9,7,6,5,2,0] [104,103,102,101,0] rfl rfl (nf (ZK .t .t) r2 trivial (nM rfl rfl (nm rfl rfl rfl rfl (nk rfl (fun h=>o_eql (.w h) (.ci (by kernel_rfl))) r2 trivial (nf (ZK .t .t) r2 trivial (nM rfl rfl (nm rfl rfl rfl rfl (nk rfl (fun h=>o_eql (.w h) (.ci (by kernel_rfl))) r2 trivial (nf (ZK .t .t) r2 trivial (nM rfl rfl (nk rfl (fun h=>oL true 2 103 .is) r2 r1 (nk rfl (fun h=>oL true 2 102 .is) r2 r1 (nk rfl (fun h=>oP (Zmg (⟨[(⟨2,true,[⟨false,5,0,0⟩]⟩:TxD)],[⟨5,[2]⟩]⟩:Zj) (⟨[(⟨2,true,[⟨false,5,0,0⟩]⟩:TxD)],[⟨5,[2]⟩]⟩:Zj)) Tryz.func20 (Args.two (.pagg (.w h)) (.pagg (.w h)))) r3 trivial (nf (ZK .t .t) r2 trivial (nM rfl rfl (nm rfl rfl rfl rfl (nk rfl (fun h=>o_eql (.w h) (.ci (by kernel_rfl))) r2 trivial (nf (ZK .t .t) r2 trivial (nM rfl rfl (nm rfl rfl rfl rfl (nn [106,105,14,13,11,0] [104,103,102,101,0] rfl rfl (nk rfl (fun h=>ZaM Tryz.underlying28 (.w h)) r2 trivial (nk rfl (fun h=>o_eql (.w h) (.ci (by kernel_rfl))) r2 trivial (nf (ZK .t .t) r2 trivial (nM rfl rfl (nm rfl rfl rfl rfl (nk rfl (fun h=>o_eql (.w h) (.ci (by kernel_rfl))) r2 trivial (nf (ZK .t .t) r2 trivial (nM rfl rfl (nm rfl rfl rfl rfl (nk rfl (fun h=>o_eql (.w h) (.ci (by kernel_rfl))) r2 trivial (nf (ZK .t .t) r2 trivial (nM rfl rfl (nm rfl rfl rfl rfl (nk rfl (fun h=>o_eql (.w h) (.ci (by kernel_rfl))) r2 trivial (nf (ZK .t .t) r2 trivial (nN rfl rfl ZV.nil)))))))))))))))))))))))))))))))))))))))))))))))))))))))))) (by kernel_rfl) (by rw [hB];kernel_rfl) fun a w F hS=>?_
 obtain ⟨F,hS⟩:=hS.nm [0] [104,103,102,101,0] rfl rfl
 try dsimp only [List.map,xD,xE,xT,xU,ldSF,Zn,rTx,Zx,ZO,rInt,rOp,rCmd,ZF,ZaN,ZR,ZA] at hS
 try simp only [Int.toNat_natCast] at hS
 refine Zb (wp_ret ?_)
 refine Zq hfr hS rfl rfl rfl (.bool (by decide +kernel))
theorem Zix (g o:Zj):FnP Tryz.prog 4 [.agg (Zn g),.agg (Zn o)] (.bool true):=by
 refine FnP.mk Tryz.func4 rfl Tryz.ntmps4 rfl ?_
 intro B a w F hB hfr hS
 refine wp_seq ?_
 refine Zc hS (qx 101 r1 (qx 102 r1 qB)) hB [4,3,2] [102,101,0] (fun _=>rfl) (fun _=>rfl) fun τ a w F hS=>?_
 try dsimp only [RS.sub,SF.sub,CF.sub,csub,Anc.sub,List.map,zCF,Zn,rTx,Zx,ZO,rInt,rOp,rCmd,ZF,ZaN,ZR,ZA] at hS
 generalize τ 2=v2 at hS
 generalize τ 3=v3 at hS
 refine Zb (wp_seq (wp_seq ?_))
 refine Za hS (qf (oP (ZnL) Tryz.func15 Args.nil) trivial qz (qf (o_not .t) r1 qz qZ)) hB [17,4,3,2] [102,101,0] rfl rfl fun a w F hS=>Zb ?_
 refine Zd hS rfl (fun hc0=>?_) (fun hc0=>?_)
 ·skip
  simp at hc0
 refine wp_skip (Zb (wp_seq (wp_seq ?_)))
 refine Za hS (qe 2 101 r1 r1 (qf (oP (ZkO g) Tryz.func6 (Args.one (.pagg .t))) r1 qz (qf (o_not .t) r1 qz (qM rfl rfl (qk rfl (fun h=>oL true 2 102 .is) r2 r1 (qk rfl (fun h=>oP (ZkO o) Tryz.func6 (Args.one (.pagg (.w h)))) r2 qz (qk rfl (fun h=>o_not (.w h)) r2 qz (qf (Zao .t .t) r2 qz (qM rfl rfl (qk rfl (fun h=>oL true 2 101 .is) r2 r1 (qk rfl (fun h=>oP (Zcj g (Zbl.small (by simp at h;exact h.1))) Tryz.func7 (Args.one (.pagg (.w h)))) r2 qz (qk rfl (fun h=>o_not (.w h)) r2 qz (qf (Zao .t .t) r2 qz (qM rfl rfl (qk rfl (fun h=>oL true 2 102 .is) r2 r1 (qk rfl (fun h=>oP (Zcj o (Zbl.small (by simp at h;exact h.1.2))) Tryz.func7 (Args.one (.pagg (.w h)))) r2 qz (qk rfl (fun h=>o_not (.w h)) r2 qz (qf (Zao .t .t) r2 qz qZ)))))))))))))))))) hB [35,4,3,2] [102,101,0] rfl rfl fun a w F hS=>Zb ?_
 refine Zd hS rfl (fun hc1=>?_) (fun hc1=>?_)
 ·skip
  refine wp_seq ?_
  refine Za hS qB hB [4,3,2] [102,101,0] rfl rfl fun a w F hS=>Zb (wp_ret (Ze ?_))
  refine Zq hfr hS rfl rfl rfl .refl
 have hcx:=hc1
 simp at hcx
 obtain ⟨⟨⟨hcg,hco⟩,hrg⟩,hro⟩:=hcx
 have hpg:Zex 12 g:=Zex.light (Zbl.small hcg) hcg.1 hcg.2.2.1
 have hpo9:Zex 12 o:=Zex.light (Zbl.small hco) hco.1 hco.2.2.1
 have hfg:ZaT 12 g:=⟨hrg,hpg.2⟩
 have hfo:ZaT 12 o:=⟨hro,hpo9.2⟩
 have hpl:=ZnF hfg hfo
 have hpo:(Zae g o).2=0∧(Zae o o).2=0:=by unfold Zae;rw [if_neg (by simp [hrg,hro]),if_neg (by simp [hro])];exact ⟨rfl,rfl⟩
 refine wp_skip (Zb (wp_seq ?_))
 refine Za hS (qe 2 101 r1 r1 (qe 2 102 r1 r1 (qf (oP (ZbK g o 12 (by omega) hpg hpo9) Tryz.func16 (Args.two (.pagg .t) (.pagg .t))) r2 qz (qM rfl rfl (qf (o_extract .t rfl) r1 qz (qf (o_extract .t rfl) r1 qz (qN rfl rfl (qN rfl rfl qZ)))))))) hB [6,5,4,3,2] [102,101,0] rfl rfl fun a w F hS=>Zb (wp_seq ?_)
 refine Zc hS (qe 2 101 r1 r1 (qM rfl rfl (qf (oP (Zp8 g o (Zae g o).1 (ZoL hfg hfo) (fun c hc=>(Zg9 hfg hfo hc).2.2)) Tryz.func17 (Args.two (.pagg .t) .t)) r2 qz (qM rfl rfl (qf (o_extract .t rfl) r1 qz (qf (o_extract .t rfl) r1 qz (qf (o_extract .t rfl) r1 qz (qf (oH [.slice none 0 0,.slice none 0 0] 103) trivial qz (qf (oA 2 103 .same (.conv .t .agg)) r2 r1 (qN rfl rfl (qN rfl rfl qZ))))))))))) hB [9,8,7,6,5,4,3,2] [103,102,101,0] (fun _=>rfl) (fun _=>rfl) fun τ a w F hS=>?_
 try dsimp only [RS.sub,SF.sub,CF.sub,csub,Anc.sub,List.map,Zf,xL,xM,Nat.reduceAdd,xD,xE,xT,xU,xC,xN,zCF,ldSF,Zn,rTx,Zx,ZO,rInt,rOp,rCmd,ZF,ZaN,ZR,ZA] at hS
 generalize τ 7=v7 at hS
 refine Zb (wp_seq ?_)
 refine Za hS (qe 2 102 r1 r1 (qe 2 102 r1 r1 (qf (oP (ZbK o o 12 (by omega) hpo9 hpo9) Tryz.func16 (Args.two (.pagg .t) (.pagg .t))) r2 qz (qM rfl rfl (qf (o_extract .t rfl) r1 qz (qf (o_extract .t rfl) r1 qz (qN rfl rfl (qN rfl rfl qZ)))))))) hB [11,10,9,8,7,6,5,4,3,2] [103,102,101,0] rfl rfl fun a w F hS=>Zb (wp_seq (wp_seq ?_))
 refine Za hS (qM rfl rfl (qf (o_neq .t qi) r1 qz (qM rfl rfl (qm rfl rfl rfl rfl (qk rfl (fun h=>o_neq (.w h) qi) r2 qz (qf (Zao .t .t) r2 qz (qM rfl rfl (qm rfl rfl rfl rfl (qm rfl rfl rfl rfl (qk rfl (fun h=>ZaM Tryz.underlying28 (.w h)) r2 qz (qk rfl (fun h=>o_neq (.w h) (.w h)) r3 qz (qf (Zao .t .t) r2 qz (qM rfl rfl (qk rfl (fun h=>oL true 2 103 .is) r2 r1 (qk rfl (fun h=>oL true 2 102 .is) r2 r1 (qk rfl (fun h=>oP (ZoF _ _) Tryz.func10 (Args.two (.pagg (.w h)) (.pagg (.w h)))) r3 qz (qk rfl (fun h=>o_not (.w h)) r2 qz (qf (Zao .t .t) r2 qz (qM rfl rfl (qm rfl rfl rfl rfl (qk rfl (fun h=>ZaM Tryz.underlying28 (.w h)) r2 qz (qk rfl (fun h=>o_neq (.w h) qi) r2 qz (qf (Zao .t .t) r2 qz (qM rfl rfl (qm rfl rfl rfl rfl (qk rfl (fun h=>o_neq (.w h) qi) r2 qz (qf (Zao .t .t) r2 qz (qM rfl rfl (qm rfl rfl rfl rfl (qk rfl (fun h=>ZaM Tryz.underlying28 (.w h)) r2 qz (qk rfl (fun h=>o_eql (.w h) qi) r2 qz (qk rfl (fun h=>oL true 2 101 .is) r2 r1 (qk rfl (fun h=>oL true 2 102 .is) r2 r1 (qk rfl (fun h=>oP (ZoF _ _) Tryz.func10 (Args.two (.pagg (.w h)) (.pagg (.w h)))) r3 qz (qk rfl (fun h=>Zn8 Tryz.underlying4 (.w h) (.w h)) r3 qz (qf (Zao .t .t) r2 qz qZ)))))))))))))))))))))))))))))))))))) hB [90,5,4] [103,102,101,0] rfl rfl fun a w F hS=>Zb ?_
 refine Zd hS rfl (fun hc2=>?_) (fun hc2=>?_)
 ·skip
  simp [patch_self hfo,hpo] at hc2
  try exact absurd hc2 (by simp [Zl1 hfg hfo])
 refine wp_skip (Zb (wp_seq (wp_seq ?_)))
 refine Za hS (qM rfl rfl (qu Tryz.underlying28 r1 (qJ qZ))) hB [93,92,91,4] [103,102,101,0] rfl rfl fun a w F hS=>Zb (wp_block ?_)
 refine Zr (σ:=(Nat)) [4,91,92] [0,101,102,103] (fun s=>[(93,.pv (.int .i64 (s:Int)))]) (fun s=>[]) (fun s=>s≤(Zae g o).1.length∧(True)) (fun s=>(Zae g o).1.length - s) (0) hS ⟨rfl,rfl,rfl,rfl,trivial⟩ ⟨rfl,rfl,rfl,rfl,trivial⟩ ⟨Nat.zero_le _,trivial⟩ ?_
 clear hS;intro i a w F hC hS
 try dsimp only at hC
 obtain ⟨F,hS⟩:=hS.nm [93,92,91,4] [103,102,101,0] rfl rfl
 try dsimp only at hS
 obtain ⟨hi,hq⟩:=hC
 refine wp_seq ?_
 refine Za hS (qL r2) hB [94,93,92,91,4] [103,102,101,0] rfl rfl fun a w F hS=>Zb (wp_seq ?_)
 refine Zd hS rfl (fun hc3=>?_) (fun hc3=>?_)
 ·skip
  have hil:i<(Zae g o).1.length:=by simp at hc3;omega
  have hio:=hil
  have hgd:=Zg9 hfg hfo (ZB hio)
  have hpt:=Zmp hgd.1 (by rw [hgd.2.1];simp)
  refine wp_skip (Zb (wp_seq (wp_block (wp_seq ?_))))
  refine Zc hS (qy 10 Tryz.underlying28 r2 (qf (oR true 10 .t) r1 qz (qf (oH [.int .i64 0,.int .i64 0,.bool false,.slice none 0 0,.int .i64 0,.slice none 0 0,.int .i64 0,.int .i64 0,.int .i64 0,.int .i64 0] 104) trivial qz (qS 10 104 r2 r1 qZ)))) hB [93,92,91,13,4] [104,103,102,101,0] (fun _=>rfl) (fun _=>rfl) fun τ a w F hS=>?_
  try dsimp only [RS.sub,SF.sub,CF.sub,csub,Anc.sub,List.map,Zf,xL,xM,Nat.reduceAdd,xD,xE,xT,xU,xC,xN,zCF,ldSF,Zn,rTx,Zx,ZO,rInt,rOp,rCmd,ZF,ZaN,ZR,ZA] at hS
  generalize τ 13=v13 at hS
  try simp only [Int.toNat_natCast] at hS
  refine Zb (wp_seq ?_)
  refine Zc hS (qe 10 104 r1 r1 (qf (oP (ZnD (Go.Gm.nth (Zae g o).1 i) (by rw [hgd.2.1];simp)) Tryz.func18 (Args.one (.pagg .t))) r1 qz (qf (oP (ZrF (ZcA (Go.Gm.nth (Zae g o).1 i)) (by have:=Zne hgd.1 (by rw [hgd.2.1];simp);omega)) Tryz.func12 (Args.one .t)) r1 qz (qM rfl rfl (qf (o_extract .t rfl) r1 qz (qf (o_extract .t rfl) r1 qz (qf (oH [.int .i64 0,.int .i64 0,.bool false,.slice none 0 0,.int .i64 0,.slice none 0 0,.int .i64 0,.int .i64 0,.int .i64 0,.int .i64 0] 105) trivial qz (qf (oA 10 105 .same (.conv .t .agg)) r2 r1 (qN rfl rfl qZ))))))))) hB [93,92,91,15,14,13,4] [105,104,103,102,101,0] (fun _=>rfl) (fun _=>rfl) fun τ a w F hS=>?_
  try dsimp only [RS.sub,SF.sub,CF.sub,csub,Anc.sub,List.map,Zf,xL,xM,Nat.reduceAdd,xD,xE,xT,xU,xC,xN,zCF,ldSF,Zn,rTx,Zx,ZO,rInt,rOp,rCmd,ZF,ZaN,ZR,ZA] at hS
  generalize τ 14=v14 at hS
  rw [hpt] at hS
  dsimp only at hS
  refine Zb (wp_seq ?_)
  refine Za hS (qM rfl rfl (qf (o_neq .t qi) r1 qz (qM rfl rfl (qk rfl (fun h=>oL true 10 104 .is) r2 r1 (qk rfl (fun h=>oL true 10 105 .is) r2 r1 (qk rfl (fun h=>oP (Zjx (Go.Gm.nth (Zae g o).1 i) (Go.Gm.nth (Zae g o).1 i)) Tryz.func13 (Args.two (.pagg (.w h)) (.pagg (.w h)))) r3 qz (qk rfl (fun h=>o_not (.w h)) r2 qz (qf (Zao .t .t) r2 qz qZ)))))))) hB [110,93,92,91,4] [105,104,103,102,101,0] rfl rfl fun a w F hS=>Zb ?_
  refine Zd hS rfl (fun hc4=>?_) (fun hc4=>?_)
  ·skip
   simp at hc4
  refine wp_skip (Zh (Zb ?_))
  refine Za hS (qp r1 (qM rfl rfl qZ)) hB [93,92,91,4] [105,104,103,102,101,0] rfl rfl fun a w F hS=>Zb ?_
  replace hS:=hS.ent (i:=93) (s':=.pv (.int .i64 ((i+1:Nat):Int))) rfl (.int (wrap_succ (by omega)))
  obtain ⟨F,hS⟩:=hS.nm [92,91,4,93] [103,102,101,0] rfl rfl
  exact ⟨(i+1),F,⟨by omega,trivial⟩,hS,by omega⟩
 have hil:i=(Zae g o).1.length:=by simp at hc3;omega
 refine wp_exit (Zi (Zi (Zo (Zb (wp_seq ?_)))))
 refine Za hS qB hB [4] [103,102,101,0] rfl rfl fun a w F hS=>Zb (wp_ret ?_)
 refine Zq hfr hS rfl rfl rfl .refl
end Go.Proofs.YtjhapicamnijnaaGreatDoor
