/- Texts put together. No condition beyond those that each theorem says. -/
import Derived.Test.YtjhapicamnijnaaGreatJ8
import Derived.Test.YtjhapicamnijnaaGreatJ4
import Derived.Test.YtjhapicamnijnaaGreatJ5
import Derived.Test.YtjhapicamnijnaaGreatJ7
import Derived.Test.YtjhapicamnijnaaGreatJ1
import Derived.Test.YtjhapicamnijnaaGreatJ2
namespace Go.Proofs.YtjhapicamnijnaaGreat
open Go Go.Gm
set_option linter.unusedVariables false
set_option linter.unusedSimpArgs false
set_option maxHeartbeats 4000000
set_option maxRecDepth 8000
theorem Zow (l : List OpD) (p : OpD → Bool) (f : FuncId) (fn : Func) (cps : List PV) (hf : Tryz.prog.funcs[f]? = some fn) (hb : fn.body.isSome = true) (hnn : (fn.name == "runtime.NumGoroutine") = false) (hw : ∀ x, FnP Tryz.prog f (.agg (rOp x) :: cps) (.bool (p x))) : FnP Tryz.prog 107 [.sl rOp l, .clos f cps] (.bool (l.any p)) := by
 refine FnP.mk Tryz.func107 rfl Tryz.ntmps107 rfl ?_
 intro B a w F hB hfr hS
 refine wp_seq ?_
 refine Za hS qB hB [4,1,0] [0] rfl rfl fun a w F hS=>Zb (wp_seq ?_)
 refine Za hS (qM rfl rfl (qM rfl rfl (qf (oP (Zmr l p f fn cps hf hb hnn hw) Tryz.func166 (Args.two .t .t)) r2 qz (qf (ZbF .t qi) r1 qz (qN rfl rfl qZ))))) hB [4] [0] rfl rfl fun a w F hS=>Zb (wp_ret ?_)
 refine Zn hfr hS rfl rfl rfl (.bool (by rw [ZiA]))
theorem Znk (o:OpD):FnP Tryz.prog 108 [.agg (rOp o)] (.bool o.read):=by
 refine FnP.mk Tryz.func108 rfl Tryz.ntmps108 rfl ?_
 intro B a w F hB hfr hS
 refine wp_seq ?_
 refine Zc hS (qx 101 r1 qB) hB [2,1] [101,0] (fun _=>rfl) (fun _=>rfl) fun τ a w F hS=>?_
 try dsimp only [RS.sub,SF.sub,CF.sub,csub,Anc.sub,List.map,zCF,rOp] at hS
 generalize τ 1=v1 at hS
 refine Zb (wp_seq ?_)
 refine Za hS (qg 0 101 r1 r1 (qa 101 r1 r1 (qN rfl rfl qZ))) hB [2] [0] rfl rfl fun a w F hS=>Zb (wp_ret ?_)
 refine Zn hfr hS rfl rfl rfl .refl
theorem Zne (t:TxD):FnP Tryz.prog 48 [.agg (rTx t)] (.bool (Zak t)):=by
 refine FnP.mk Tryz.func48 rfl Tryz.ntmps48 rfl ?_
 intro B a w F hB hfr hS
 refine wp_seq ?_
 refine Zc hS (qx 101 r1 qB) hB [2,1] [101,0] (fun _=>rfl) (fun _=>rfl) fun τ a w F hS=>?_
 try dsimp only [RS.sub,SF.sub,CF.sub,csub,Anc.sub,List.map,zCF,Zm,rTx,Zs,ZC,rInt,rOp] at hS
 generalize τ 1=v1 at hS
 refine Zb (wp_seq ?_)
 refine Za hS (qg 2 101 r1 r1 (qa 101 r1 r1 (qf (oP (Zow t.ops (fun o=>o.read) 108 Tryz.f108 [] Tryz.func108 rfl (by kernel_rfl) Znk) Tryz.func107 (Args.two .t (.conv .f (Ent.fnClos)))) r1 qz (qN rfl rfl qZ)))) hB [2] [101,0] rfl rfl fun a w F hS=>Zb (wp_ret ?_)
 refine Zn hfr hS rfl rfl rfl (.bool rfl)
theorem ZnY (o:OrdD) (ho:o.txs.length≤1000):FnP Tryz.prog 50 [.agg (Zs o)] (.sl rCmd (ZbM o)):=by
 refine FnP.mk Tryz.func50 rfl Tryz.ntmps50 rfl ?_
 intro B a w F hB hfr hS
 have hsh:=Zdf (o.txs.mergeSort leI) o.txs
 refine wp_seq ?_
 refine Zc hS (qx 101 r1 (qC qZ)) hB [2,1] [101,0] (fun _=>rfl) (fun _=>rfl) fun τ a w F hS=>?_
 try dsimp only [RS.sub,SF.sub,CF.sub,csub,Anc.sub,List.map,zCF,Zm,rTx,Zs,ZC,rInt,rOp,rCmd,ZbI] at hS
 generalize τ 1=v1 at hS
 refine Zb (wp_seq ?_)
 refine Za hS (qC qZ) hB [3,2,1] [101,0] rfl rfl fun a w F hS=>Zb (wp_seq ?_)
 refine Zu hS (qg 1 101 r1 r1 (qa 101 r1 r1 (qf (oP (Zoz o.txs) Tryz.func110 (Args.one .t)) r1 qz (qf (oP (ZmM o.txs (by omega)) Tryz.func109 (Args.one .t)) r1 qz (qg 1 101 r1 r1 (qa 101 r1 r1 (qf (oP (Zn9 (o.txs.mergeSort leI) o.txs (by rw [List.length_mergeSort];omega) (by omega)) Tryz.func33 (Args.two .t .t)) r2 qz (qM rfl rfl (qf (o_extract .t rfl) r1 qz (qf (o_extract .t rfl) r1 qz (qN rfl rfl (qN rfl rfl qZ)))))))))))) hB [4,3,2,1] [101,0] rfl rfl fun a w F hS=>?_
 try dsimp only [List.map,xD,xE,xT,xU,ldSF,Zm,rTx,Zs,ZC,rInt,rOp,rCmd,ZbI] at hS
 refine Zb (wp_seq (wp_seq ?_))
 refine Za hS (qM rfl rfl (qu Tryz.underlying65 r1 (qJ qZ))) hB [20,19,18,3,2,1] [101,0] rfl rfl fun a w F hS=>Zb (wp_block ?_)
 replace hS:=hS.fresh 50 rfl
 replace hS:=hS.turn 50 rfl (Zav (T:=45) (sz:=10) (R:=rCmd))
 refine Zl (σ:=(Nat)×(Value)×(List CmdD)) [1,2,18,19] [0,101] (fun s=>[(20,.pv (.int .i64 (s.1:Int))),(3,.pv (.is s.2.1))]) (fun s=>[(50,.ob (.val s.2.1) (Zy 45 10 rCmd s.2.2))]) (fun s=>s.1≤(Zae (o.txs.mergeSort leI) o.txs).1.length∧(s.2.2=((Zae (o.txs.mergeSort leI) o.txs).1.take s.1).map (Zna o.key))) (fun s=>(Zae (o.txs.mergeSort leI) o.txs).1.length - s.1) ((0),(.slice none 0 0),([])) hS ⟨rfl,rfl,rfl,rfl,rfl,rfl,trivial⟩ ⟨rfl,rfl,rfl,trivial⟩ ⟨Nat.zero_le _,rfl⟩ ?_
 clear hS;intro s a w F hC hS
 obtain ⟨i,v,out⟩:=s
 try dsimp only at hC
 obtain ⟨F,hS⟩:=hS.nm [20,19,18,3,2,1] [101,50,0] rfl rfl
 try dsimp only at hS
 obtain ⟨hi,hq⟩:=hC
 have hol:out.length≤i:=by rw [hq,List.length_map,List.length_take];omega
 refine wp_seq ?_
 refine Za hS (qL r2) hB [21,20,19,18,3,2,1] [101,50,0] rfl rfl fun a w F hS=>Zb (wp_seq ?_)
 refine Zd hS rfl (fun hc0=>?_) (fun hc0=>?_)
 ·skip
  have hil:i<(Zae (o.txs.mergeSort leI) o.txs).1.length:=by simp at hc0;omega
  have hio:=hil
  refine wp_skip (Zb (wp_seq (wp_block (wp_seq ?_))))
  refine Zc hS (qy 2 Tryz.underlying65 r2 (qf (oR true 2 .t) r1 qz (qf (oH [.int .i64 0,.int .i64 0] 102) trivial qz (qS 2 102 r2 r1 qZ)))) hB [20,19,18,7,3,2,1] [102,101,50,0] (fun _=>rfl) (fun _=>rfl) fun τ a w F hS=>?_
  try dsimp only [RS.sub,SF.sub,CF.sub,csub,Anc.sub,List.map,Zg,xL,xM,Nat.reduceAdd,xD,xE,xT,xU,xC,xN,zCF,ldSF,Zm,rTx,Zs,ZC,rInt,rOp,rCmd,ZbI] at hS
  generalize τ 7=v7 at hS
  try simp only [Int.toNat_natCast] at hS
  refine Zb ?_
  refine Zc hS (qM rfl rfl (qg 0 101 r1 r1 (qa 101 r1 r1 (qg 0 102 r1 r1 (qa 102 r1 r1 (qg 1 102 r1 r1 (qa 102 r1 r1 (qf (oB [(0,_),(3,.tmp 26),(4,.tmp 28),(5,.tmp 30)] [.int .i64 0,.int .i64 0,.bool false,.slice none 0 0,.int .i64 0,.slice none 0 0,.int .i64 0,.int .i64 0,.int .i64 0,.int .i64 0] [(0,1),(1,3),(4,2),(6,1),(7,1),(8,1),(9,1)] (.one rfl qi one_int (by kernel_rfl) (.one rfl .t one_int (by kernel_rfl) (.one rfl .t one_int (by kernel_rfl) (.one rfl .t one_int (by kernel_rfl) .nil))))) r3 qz (qf (Zj (sz:=10) (zs:=[.int .i64 0,.int .i64 0,.bool false,.slice none 0 0,.int .i64 0,.slice none 0 0,.int .i64 0,.int .i64 0,.int .i64 0,.int .i64 0]) (r:=[(0,.tmp 31)]) (l:=[_,_,_,_,_,_,_,_,_,_]) Tryz.underlying26 (by kernel_rfl) (by kernel_rfl) (by kernel_rfl) (by kernel_rfl) rfl rfl (.agg rfl .t (by kernel_rfl) (by kernel_rfl) .nil) rfl) r1 qz (qf (o_append (sz:=10) (bs:=112) 50 (.mk' Tryz.underlying26 (by kernel_rfl) (by kernel_rfl)) (by intro x;rfl) .is (.sl (.conv .t (entArr (l:=[.int .i64 5,.int .i64 0,.bool false,.is (.slice none 0 0),.int .i64 0,.is (.slice none 0 0),.int .i64 o.key,.int .i64 (Go.Gm.nth (Zae (o.txs.mergeSort leI) o.txs).1 i).key,.int .i64 (Go.Gm.nth (Zae (o.txs.mergeSort leI) o.txs).1 i).val,.int .i64 0]) (R:=rCmd) (l':=[Zna o.key (Go.Gm.nth (Zae (o.txs.mergeSort leI) o.txs).1 i)]) rfl ⟨PVLe.refl,PVLe.refl,PVLe.refl,PVLe.nilSl,PVLe.refl,PVLe.nilSl,PVLe.refl,PVLe.refl,PVLe.refl,PVLe.refl,trivial⟩))) (by simp only [List.length_append,List.length_cons,List.length_nil];omega) (by decide)) ⟨rfl,rfl,trivial⟩ ⟨rfl,trivial⟩ (qN rfl rfl qZ))))))))))) hB [20,19,18,3,2,1] [102,101,50,0] (fun _=>rfl) (fun _=>rfl) fun τ a w F hS=>?_
  try dsimp only [RS.sub,SF.sub,CF.sub,csub,Anc.sub,List.map,Zg,xL,xM,Nat.reduceAdd,xD,xE,xT,xU,xC,xN,zCF,ldSF,Zm,rTx,Zs,ZC,rInt,rOp,rCmd,ZbI] at hS
  generalize τ 33=v33 at hS
  refine Zh (Zb ?_)
  refine Za hS (qp r1 (qM rfl rfl qZ)) hB [20,19,18,3,2,1] [102,101,50,0] rfl rfl fun a w F hS=>Zb ?_
  replace hS:=hS.ent (i:=20) (s':=.pv (.int .i64 ((i+1:Nat):Int))) rfl (.int (Ze (by omega)))
  obtain ⟨F,hS⟩:=hS.nm [19,18,2,1,3,20] [101,0,50] rfl rfl
  exact ⟨((i+1),_,_),F,⟨by omega,(by rw [Zb4 hio,hq])⟩,hS,by omega⟩
 have hil:i=(Zae (o.txs.mergeSort leI) o.txs).1.length:=by simp at hc0;omega
 refine wp_exit (Zi (Zi (Zo (Zb (wp_seq ?_)))))
 refine Za hS (qM rfl rfl (qN rfl rfl qZ)) hB [2] [101,50,0] rfl rfl fun a w F hS=>Zb (wp_ret ?_)
 obtain ⟨F,hS⟩:=hS.give 50 2 rfl rfl
 refine Zn hfr hS rfl rfl rfl (.sl (by rw [hq,hil,List.take_length];rfl))
theorem Zcj (g:HistD) (hs:ZaR g):FnP Tryz.prog 17 [.agg (Zm g)] (.sl rCmd (ZI g)):=by
 refine FnP.mk Tryz.func17 rfl Tryz.ntmps17 rfl ?_
 intro B a w F hB hfr hS
 have hst:=hs.1.1
 have hso:=hs.2.1
 refine wp_seq ?_
 refine Zc hS (qx 101 r1 (qC qZ)) hB [2,1] [101,0] (fun _=>rfl) (fun _=>rfl) fun τ a w F hS=>?_
 try dsimp only [RS.sub,SF.sub,CF.sub,csub,Anc.sub,List.map,zCF,Zm,rTx,Zs,ZC,rInt,rOp,rCmd] at hS
 generalize τ 1=v1 at hS
 refine Zb (wp_seq (wp_seq ?_))
 refine Za hS (qe 2 101 r1 r1 (qf (oP (ZeQ g hs) Tryz.func16 (Args.one (.pagg .t))) r1 qz (qf (o_not .t) r1 qz qZ))) hB [12,2,1] [101,0] rfl rfl fun a w F hS=>Zb ?_
 refine Zd hS rfl (fun hc0=>?_) (fun hc0=>?_)
 ·skip
  have hr:¬ ZB g:=by simpa using hc0
  refine wp_seq ?_
  refine Za hS (qC qZ) hB [2,1] [101,0] rfl rfl fun a w F hS=>Zb (wp_ret (Zf ?_))
  refine Zn hfr hS rfl rfl rfl (.trans .nilSl (.sl (by first | exact (Zcm hr).symm | (rw [ZbA hr,hq,hil,List.take_length]))))
 have hr:ZB g:=by simpa using hc0
 refine wp_skip (Zb (wp_seq ?_))
 refine Za hS (qC qZ) hB [3,2,1] [101,0] rfl rfl fun a w F hS=>Zb (wp_seq (wp_seq ?_))
 refine Za hS (qg 0 101 r1 r1 (qa 101 r1 r1 (qu Tryz.underlying22 r1 (qJ qZ)))) hB [16,15,14,3,2,1] [101,0] rfl rfl fun a w F hS=>Zb (wp_block ?_)
 replace hS:=hS.fresh 50 rfl
 replace hS:=hS.turn 50 rfl (Zav (T:=45) (sz:=10) (R:=rCmd))
 refine Zl (σ:=(Nat)×(Value)×(List CmdD)) [1,2,14,15] [0,101] (fun s=>[(16,.pv (.int .i64 (s.1:Int))),(3,.pv (.is s.2.1))]) (fun s=>[(50,.ob (.val s.2.1) (Zy 45 10 rCmd s.2.2))]) (fun s=>s.1≤g.txs.length∧(s.2.2=(g.txs.take s.1).map Zdt)) (fun s=>g.txs.length - s.1) ((0),(.slice none 0 0),([])) hS ⟨rfl,rfl,rfl,rfl,rfl,rfl,trivial⟩ ⟨rfl,rfl,rfl,trivial⟩ ⟨Nat.zero_le _,rfl⟩ ?_
 clear hS;intro s a w F hC hS
 obtain ⟨i,v,out⟩:=s
 try dsimp only at hC
 obtain ⟨F,hS⟩:=hS.nm [16,15,14,3,2,1] [101,50,0] rfl rfl
 try dsimp only at hS
 obtain ⟨hi,hq⟩:=hC
 have hol:out.length≤i:=by rw [hq,List.length_map,List.length_take];omega
 refine wp_seq ?_
 refine Za hS (qL r2) hB [17,16,15,14,3,2,1] [101,50,0] rfl rfl fun a w F hS=>Zb (wp_seq ?_)
 refine Zd hS rfl (fun hc1=>?_) (fun hc1=>?_)
 ·skip
  have hil:i<g.txs.length:=by simp at hc1;omega
  have hio:=hil
  have hxo:=hs.1.at hio
  refine wp_skip (Zb (wp_seq (wp_block (wp_seq ?_))))
  refine Zc hS (qy 3 Tryz.underlying22 r2 (qf (oR true 3 .t) r1 qz (qf (oH [.int .i64 0,.bool false,.slice none 0 0] 102) trivial qz (qS 3 102 r2 r1 qZ)))) hB [16,15,14,5,3,2,1] [102,101,50,0] (fun _=>rfl) (fun _=>rfl) fun τ a w F hS=>?_
  try dsimp only [RS.sub,SF.sub,CF.sub,csub,Anc.sub,List.map,Zg,xL,xM,Nat.reduceAdd,xD,xE,xT,xU,xC,xN,zCF,ldSF,Zm,rTx,Zs,ZC,rInt,rOp,rCmd] at hS
  generalize τ 5=v5 at hS
  try simp only [Int.toNat_natCast] at hS
  refine Zb ?_
  refine Zc hS (qM rfl rfl (qe 3 102 r1 r1 (qf (oP (ZnV (Go.Gm.nth g.txs i) (by omega)) Tryz.func47 (Args.one (.pagg .t))) r1 qz (qf (oB [(0,_),(1,.tmp 22)] [.int .i64 0,.int .i64 0,.bool false,.slice none 0 0,.int .i64 0,.slice none 0 0,.int .i64 0,.int .i64 0,.int .i64 0,.int .i64 0] [(0,1),(1,3),(4,2),(6,1),(7,1),(8,1),(9,1)] (.one rfl qi one_int (by kernel_rfl) (.agg rfl (.conv .t .agg) (by kernel_rfl) (by kernel_rfl) .nil))) r1 qz (qf (Zj (sz:=10) (zs:=[.int .i64 0,.int .i64 0,.bool false,.slice none 0 0,.int .i64 0,.slice none 0 0,.int .i64 0,.int .i64 0,.int .i64 0,.int .i64 0]) (r:=[(0,.tmp 23)]) (l:=[_,_,_,_,_,_,_,_,_,_]) Tryz.underlying26 (by kernel_rfl) (by kernel_rfl) (by kernel_rfl) (by kernel_rfl) rfl rfl (.agg rfl .t (by kernel_rfl) (by kernel_rfl) .nil) rfl) r1 qz (qf (o_append (sz:=10) (bs:=112) 50 (.mk' Tryz.underlying26 (by kernel_rfl) (by kernel_rfl)) (by intro x;rfl) .is (.sl (.conv .t (entArr (l:=[.int .i64 1,.int .i64 (bareT (Go.Gm.nth g.txs i)).id,.bool (bareT (Go.Gm.nth g.txs i)).done,.sl rOp (bareT (Go.Gm.nth g.txs i)).ops,.int .i64 0,.is (.slice none 0 0),.int .i64 0,.int .i64 0,.int .i64 0,.int .i64 0]) (R:=rCmd) (l':=[Zdt (Go.Gm.nth g.txs i)]) rfl ⟨PVLe.refl,PVLe.refl,PVLe.refl,PVLe.refl,PVLe.refl,PVLe.nilSl,PVLe.refl,PVLe.refl,PVLe.refl,PVLe.refl,trivial⟩))) (by simp only [List.length_append,List.length_cons,List.length_nil];omega) (by decide)) ⟨rfl,rfl,trivial⟩ ⟨rfl,trivial⟩ (qN rfl rfl qZ))))))) hB [16,15,14,3,2,1] [102,101,50,0] (fun _=>rfl) (fun _=>rfl) fun τ a w F hS=>?_
  try dsimp only [RS.sub,SF.sub,CF.sub,csub,Anc.sub,List.map,Zg,xL,xM,Nat.reduceAdd,xD,xE,xT,xU,xC,xN,zCF,ldSF,Zm,rTx,Zs,ZC,rInt,rOp,rCmd] at hS
  generalize τ 25=v25 at hS
  refine Zh (Zb ?_)
  refine Za hS (qp r1 (qM rfl rfl qZ)) hB [16,15,14,3,2,1] [102,101,50,0] rfl rfl fun a w F hS=>Zb ?_
  replace hS:=hS.ent (i:=16) (s':=.pv (.int .i64 ((i+1:Nat):Int))) rfl (.int (Ze (by omega)))
  obtain ⟨F,hS⟩:=hS.nm [15,14,2,1,3,16] [101,0,50] rfl rfl
  exact ⟨((i+1),_,_),F,⟨by omega,(by rw [Zb4 hio,hq])⟩,hS,by omega⟩
 have hil:i=g.txs.length:=by simp at hc1;omega
 have hqe:out=(g.txs.map Zdt):=by rw [hq,hil,List.take_length]
 subst hqe
 refine wp_exit (Zi (Zi (Zo (Zb (wp_seq (wp_seq ?_))))))
 refine Za hS (qg 0 101 r1 r1 (qa 101 r1 r1 (qu Tryz.underlying22 r1 (qJ qZ)))) hB [30,29,28,3,2,1] [101,50,0] rfl rfl fun a w F hS=>Zb (wp_block ?_)
 refine Zl (σ:=(Nat)×(Value)×(List CmdD)) [1,2,28,29] [0,101] (fun s=>[(30,.pv (.int .i64 (s.1:Int))),(3,.pv (.is s.2.1))]) (fun s=>[(50,.ob (.val s.2.1) (Zy 45 10 rCmd s.2.2))]) (fun s=>s.1≤g.txs.length∧(s.2.2=(g.txs.map Zdt)++((g.txs.take s.1).filter Zak).map ZeI)) (fun s=>g.txs.length - s.1) ((0),(v),((g.txs.map Zdt))) hS ⟨rfl,rfl,rfl,rfl,rfl,rfl,trivial⟩ ⟨rfl,rfl,rfl,trivial⟩ ⟨Nat.zero_le _,(by simp)⟩ ?_
 clear hS;intro s a w F hC hS
 obtain ⟨i,v,out⟩:=s
 try dsimp only at hC
 obtain ⟨F,hS⟩:=hS.nm [30,29,28,3,2,1] [101,50,0] rfl rfl
 try dsimp only at hS
 obtain ⟨hi,hq⟩:=hC
 have hol:out.length≤1000+i:=by
   rw [hq,List.length_append,List.length_map,List.length_map]
   have h1:=List.length_filter_le Zak (g.txs.take i)
   rw [List.length_take] at h1
   omega
 have hfs:=fun h b hb=>Zes (f:=Zak) (m:=ZeI) (l:=g.txs) (i:=i) h b hb
 refine wp_seq ?_
 refine Za hS (qL r2) hB [31,30,29,28,3,2,1] [101,50,0] rfl rfl fun a w F hS=>Zb (wp_seq ?_)
 refine Zd hS rfl (fun hc2=>?_) (fun hc2=>?_)
 ·skip
  have hil:i<g.txs.length:=by simp at hc2;omega
  have hio:=hil
  have hxo:=hs.1.at hio
  refine wp_skip (Zb (wp_seq (wp_block (wp_seq ?_))))
  refine Zc hS (qy 3 Tryz.underlying22 r2 (qf (oR true 3 .t) r1 qz (qf (oH [.int .i64 0,.bool false,.slice none 0 0] 103) trivial qz (qS 3 103 r2 r1 qZ)))) hB [30,29,28,7,3,2,1] [103,101,50,0] (fun _=>rfl) (fun _=>rfl) fun τ a w F hS=>?_
  try dsimp only [RS.sub,SF.sub,CF.sub,csub,Anc.sub,List.map,Zg,xL,xM,Nat.reduceAdd,xD,xE,xT,xU,xC,xN,zCF,ldSF,Zm,rTx,Zs,ZC,rInt,rOp,rCmd] at hS
  generalize τ 7=v7 at hS
  try simp only [Int.toNat_natCast] at hS
  refine Zb (wp_seq ?_)
  refine Za hS (qe 3 103 r1 r1 (qf (oP (Zne (Go.Gm.nth g.txs i)) Tryz.func48 (Args.one (.pagg .t))) r1 qz qZ)) hB [35,30,29,28,7,3,2,1] [103,101,50,0] rfl rfl fun a w F hS=>Zb ?_
  refine Zd hS rfl (fun hc3=>?_) (fun hc3=>?_)
  ·skip
   have hrd:Zak (Go.Gm.nth g.txs i)=true:=by simpa [Zdz] using hc3
   have hst9:out ++ [ZeI (Go.Gm.nth g.txs i)] = (g.txs.map Zdt)++((g.txs.take (i+1)).filter Zak).map ZeI:=by rw [hfs hio true hrd,hq,List.append_assoc];rfl
   refine wp_seq ?_
   replace hS:=hS.fresh 104 rfl
   refine Zc hS (qg 2 103 r1 r1 (qa 103 r1 r1 (qf (Zby 104 (ZhC (Go.Gm.nth g.txs i).ops (by omega)) Tryz.func49 rfl (by kernel_rfl) (Args.one .t) Za4) r1 r1 (qg 2 103 r1 r1 (qf (ZaU 103 .adr (by kernel_rfl) (by kernel_rfl)) r2 r1 qZ))))) hB [30,29,28,7,3,2,1] [104,103,101,50,0] (fun _=>rfl) (fun _=>rfl) fun τ a w F hS=>?_
   try dsimp only [RS.sub,SF.sub,CF.sub,csub,Anc.sub,List.map,Zg,xL,xM,Nat.reduceAdd,xD,xE,xT,xU,xC,xN,zCF,ldSF,Zm,rTx,Zs,ZC,rInt,rOp,rCmd] at hS
   generalize τ 38=v38 at hS
   obtain ⟨F,hS⟩:=hS.giveCell 104 103 2 rfl rfl rfl rfl rfl
   try dsimp only [List.set] at hS
   obtain ⟨F,hS⟩:=hS.nm [30,29,28,7,3,2,1] [103,101,50,0] rfl rfl
   refine Zb ?_
   refine Zc hS (qM rfl rfl (qe 3 103 r1 r1 (qf (oB [(0,_),(1,.tmp 41)] [.int .i64 0,.int .i64 0,.bool false,.slice none 0 0,.int .i64 0,.slice none 0 0,.int .i64 0,.int .i64 0,.int .i64 0,.int .i64 0] [(0,1),(1,3),(4,2),(6,1),(7,1),(8,1),(9,1)] (.one rfl qi one_int (by kernel_rfl) (.agg rfl .t (by kernel_rfl) (by kernel_rfl) .nil))) r1 qz (qf (Zj (sz:=10) (zs:=[.int .i64 0,.int .i64 0,.bool false,.slice none 0 0,.int .i64 0,.slice none 0 0,.int .i64 0,.int .i64 0,.int .i64 0,.int .i64 0]) (r:=[(0,.tmp 42)]) (l:=[_,_,_,_,_,_,_,_,_,_]) Tryz.underlying26 (by kernel_rfl) (by kernel_rfl) (by kernel_rfl) (by kernel_rfl) rfl rfl (.agg rfl .t (by kernel_rfl) (by kernel_rfl) .nil) rfl) r1 qz (qf (o_append (sz:=10) (bs:=112) 50 (.mk' Tryz.underlying26 (by kernel_rfl) (by kernel_rfl)) (by intro x;rfl) .is (.sl (.conv .t (entArr (l:=[.int .i64 2,.int .i64 (Go.Gm.nth g.txs i).id,.bool (Go.Gm.nth g.txs i).done,.sl rOp (Go.Gm.nth g.txs i).ops,.int .i64 0,.is (.slice none 0 0),.int .i64 0,.int .i64 0,.int .i64 0,.int .i64 0]) (R:=rCmd) (l':=[ZeI (Go.Gm.nth g.txs i)]) rfl ⟨PVLe.refl,PVLe.refl,PVLe.refl,PVLe.refl,PVLe.refl,PVLe.nilSl,PVLe.refl,PVLe.refl,PVLe.refl,PVLe.refl,trivial⟩))) (by simp only [List.length_append,List.length_cons,List.length_nil];omega) (by decide)) ⟨rfl,rfl,trivial⟩ ⟨rfl,trivial⟩ (qN rfl rfl qZ)))))) hB [30,29,28,3,2,1] [103,101,50,0] (fun _=>rfl) (fun _=>rfl) fun τ a w F hS=>?_
   try dsimp only [RS.sub,SF.sub,CF.sub,csub,Anc.sub,List.map,Zg,xL,xM,Nat.reduceAdd,xD,xE,xT,xU,xC,xN,zCF,ldSF,Zm,rTx,Zs,ZC,rInt,rOp,rCmd] at hS
   generalize τ 44=v44 at hS
   refine Zh (Zb ?_)
   refine Za hS (qp r1 (qM rfl rfl qZ)) hB [30,29,28,3,2,1] [103,101,50,0] rfl rfl fun a w F hS=>Zb ?_
   replace hS:=hS.ent (i:=30) (s':=.pv (.int .i64 ((i+1:Nat):Int))) rfl (.int (Ze (by omega)))
   obtain ⟨F,hS⟩:=hS.nm [29,28,2,1,3,30] [101,0,50] rfl rfl
   exact ⟨((i+1),_,_),F,⟨by omega,hst9⟩,hS,by omega⟩
  have hrd:Zak (Go.Gm.nth g.txs i)=false:=by simpa [Zdz] using hc3
  have hst9:out=(g.txs.map Zdt)++((g.txs.take (i+1)).filter Zak).map ZeI:=by rw [hfs hio false hrd,hq];simp
  refine wp_skip (Zh (Zb ?_))
  refine Za hS (qp r1 (qM rfl rfl qZ)) hB [30,29,28,3,2,1] [103,101,50,0] rfl rfl fun a w F hS=>Zb ?_
  replace hS:=hS.ent (i:=30) (s':=.pv (.int .i64 ((i+1:Nat):Int))) rfl (.int (Ze (by omega)))
  obtain ⟨F,hS⟩:=hS.nm [29,28,2,1,3,30] [101,0,50] rfl rfl
  exact ⟨((i+1),_,_),F,⟨by omega,hst9⟩,hS,by omega⟩
 have hil:i=g.txs.length:=by simp at hc2;omega
 have hqe:out=(g.txs.map Zdt)++((g.txs.filter Zak).map ZeI):=by rw [hq,hil,List.take_length]
 subst hqe
 refine wp_exit (Zi (Zi (Zo (Zb (wp_seq (wp_seq ?_))))))
 refine Za hS (qg 1 101 r1 r1 (qa 101 r1 r1 (qu Tryz.underlying23 r1 (qJ qZ)))) hB [49,48,47,3,2] [101,50,0] rfl rfl fun a w F hS=>Zb (wp_block ?_)
 refine Zl (σ:=(Nat)×(Value)×(List CmdD)) [2,47,48] [0,101] (fun s=>[(49,.pv (.int .i64 (s.1:Int))),(3,.pv (.is s.2.1))]) (fun s=>[(50,.ob (.val s.2.1) (Zy 45 10 rCmd s.2.2))]) (fun s=>s.1≤g.orders.length∧(s.2.2=((g.txs.map Zdt)++((g.txs.filter Zak).map ZeI))++(g.orders.take s.1).flatMap ZbM)) (fun s=>g.orders.length - s.1) ((0),(v),((g.txs.map Zdt)++((g.txs.filter Zak).map ZeI))) hS ⟨rfl,rfl,rfl,rfl,rfl,trivial⟩ ⟨rfl,rfl,rfl,trivial⟩ ⟨Nat.zero_le _,(by simp)⟩ ?_
 clear hS;intro s a w F hC hS
 obtain ⟨i,v,out⟩:=s
 try dsimp only at hC
 obtain ⟨F,hS⟩:=hS.nm [49,48,47,3,2] [101,50,0] rfl rfl
 try dsimp only at hS
 obtain ⟨hi,hq⟩:=hC
 have hol:out.length≤2000+1000*i:=by
   rw [hq,List.length_append,List.length_append,List.length_map,List.length_map]
   have h1:=List.length_filter_le Zak g.txs
   have h2:=Zd6 hs.2 i
   omega
 have hml:=fun h=>Nat.le_trans (ZhS (Go.Gm.nth g.orders i)) (hs.2.at (i:=i) h)
 refine wp_seq ?_
 refine Za hS (qL r2) hB [50,49,48,47,3,2] [101,50,0] rfl rfl fun a w F hS=>Zb (wp_seq ?_)
 refine Zd hS rfl (fun hc4=>?_) (fun hc4=>?_)
 ·skip
  have hil:i<g.orders.length:=by simp at hc4;omega
  have hio:=hil
  have hoo:=hs.2.at hio
  refine wp_skip (Zb (wp_seq (wp_block (wp_seq ?_))))
  refine Zc hS (qy 2 Tryz.underlying23 r2 (qf (oR true 2 .t) r1 qz (qf (oH [.int .i64 0,.slice none 0 0] 105) trivial qz (qS 2 105 r2 r1 qZ)))) hB [49,48,47,9,3,2] [105,101,50,0] (fun _=>rfl) (fun _=>rfl) fun τ a w F hS=>?_
  try dsimp only [RS.sub,SF.sub,CF.sub,csub,Anc.sub,List.map,Zg,xL,xM,Nat.reduceAdd,xD,xE,xT,xU,xC,xN,zCF,ldSF,Zm,rTx,Zs,ZC,rInt,rOp,rCmd] at hS
  generalize τ 9=v9 at hS
  try simp only [Int.toNat_natCast] at hS
  refine Zb ?_
  refine Zc hS (qM rfl rfl (qe 2 105 r1 r1 (qf (oP (ZnY (Go.Gm.nth g.orders i) hoo) Tryz.func50 (Args.one (.pagg .t))) r1 qz (qf (o_append (sz:=10) (bs:=112) 50 (.mk' Tryz.underlying26 (by kernel_rfl) (by kernel_rfl)) (by intro x;rfl) .is (.sl .t) (by have:=hml hio;omega) (by decide)) ⟨rfl,rfl,trivial⟩ ⟨rfl,trivial⟩ (qN rfl rfl qZ))))) hB [49,48,47,3,2] [105,101,50,0] (fun _=>rfl) (fun _=>rfl) fun τ a w F hS=>?_
  try dsimp only [RS.sub,SF.sub,CF.sub,csub,Anc.sub,List.map,xD,xE,xT,xU,xC,xN,ldSF,Zm,rTx,Zs,ZC,rInt,rOp,rCmd] at hS
  generalize τ 56=v56 at hS
  refine Zh (Zb ?_)
  refine Za hS (qp r1 (qM rfl rfl qZ)) hB [49,48,47,3,2] [105,101,50,0] rfl rfl fun a w F hS=>Zb ?_
  replace hS:=hS.ent (i:=49) (s':=.pv (.int .i64 ((i+1:Nat):Int))) rfl (.int (Ze (by omega)))
  obtain ⟨F,hS⟩:=hS.nm [48,47,2,3,49] [101,0,50] rfl rfl
  exact ⟨((i+1),_,_),F,⟨by omega,(by rw [hq,Zt hio,List.flatMap_append,List.append_assoc];simp)⟩,hS,by omega⟩
 have hil:i=g.orders.length:=by simp at hc4;omega
 refine wp_exit (Zi (Zi (Zo (Zb (wp_seq ?_)))))
 refine Za hS (qM rfl rfl (qN rfl rfl qZ)) hB [2] [101,50,0] rfl rfl fun a w F hS=>Zb (wp_ret ?_)
 obtain ⟨F,hS⟩:=hS.give 50 2 rfl rfl
 refine Zn hfr hS rfl rfl rfl (.sl (by first | exact (Zcm hr).symm | (rw [ZbA hr,hq,hil,List.take_length])))
theorem ZdF (g:HistD) (hs:ZaR g):FnP Tryz.prog 21 [.agg (Zm g)] (.sl rCmd (ZI g)):=by
 refine FnP.mk Tryz.func21 rfl Tryz.ntmps21 rfl ?_
 intro B a w F hB hfr hS
 have hst:=hs.1.1
 have hso:=hs.2.1
 refine wp_seq ?_
 refine Zc hS (qx 101 r1 (qC qZ)) hB [2,1] [101,0] (fun _=>rfl) (fun _=>rfl) fun τ a w F hS=>?_
 try dsimp only [RS.sub,SF.sub,CF.sub,csub,Anc.sub,List.map,zCF,Zm,rTx,Zs,ZC,rInt,rOp,rCmd,ZbI] at hS
 generalize τ 1=v1 at hS
 refine Zb (wp_seq (wp_seq ?_))
 refine Za hS (qe 2 101 r1 r1 (qf (oP (Zbb g hs) Tryz.func35 (Args.one (.pagg .t))) r1 qz (qf (o_not .t) r1 qz qZ))) hB [19,2,1] [101,0] rfl rfl fun a w F hS=>Zb ?_
 refine Zd hS rfl (fun hc0=>?_) (fun hc0=>?_)
 ·skip
  have hr:¬ ZB g:=by simpa using hc0
  refine wp_seq ?_
  refine Za hS (qC qZ) hB [2,1] [101,0] rfl rfl fun a w F hS=>Zb (wp_ret (Zf ?_))
  refine Zn hfr hS rfl rfl rfl (.trans .nilSl (.sl (by first | exact (Zcm hr).symm | (rw [ZbA hr,hq,hil,List.take_length]))))
 have hr:ZB g:=by simpa using hc0
 refine wp_skip (Zb (wp_seq ?_))
 refine Za hS (qC qZ) hB [3,2,1] [101,0] rfl rfl fun a w F hS=>Zb (wp_seq (wp_seq ?_))
 refine Za hS (qg 0 101 r1 r1 (qa 101 r1 r1 (qu Tryz.underlying22 r1 (qJ qZ)))) hB [23,22,21,3,2,1] [101,0] rfl rfl fun a w F hS=>Zb (wp_block ?_)
 replace hS:=hS.fresh 50 rfl
 replace hS:=hS.turn 50 rfl (Zav (T:=45) (sz:=10) (R:=rCmd))
 refine Zl (σ:=(Nat)×(Value)×(List CmdD)) [1,2,21,22] [0,101] (fun s=>[(23,.pv (.int .i64 (s.1:Int))),(3,.pv (.is s.2.1))]) (fun s=>[(50,.ob (.val s.2.1) (Zy 45 10 rCmd s.2.2))]) (fun s=>s.1≤g.txs.length∧(s.2.2=(g.txs.take s.1).map Zdt)) (fun s=>g.txs.length - s.1) ((0),(.slice none 0 0),([])) hS ⟨rfl,rfl,rfl,rfl,rfl,rfl,trivial⟩ ⟨rfl,rfl,rfl,trivial⟩ ⟨Nat.zero_le _,rfl⟩ ?_
 clear hS;intro s a w F hC hS
 obtain ⟨i,v,out⟩:=s
 try dsimp only at hC
 obtain ⟨F,hS⟩:=hS.nm [23,22,21,3,2,1] [101,50,0] rfl rfl
 try dsimp only at hS
 obtain ⟨hi,hq⟩:=hC
 have hol:out.length≤i:=by rw [hq,List.length_map,List.length_take];omega
 refine wp_seq ?_
 refine Za hS (qL r2) hB [24,23,22,21,3,2,1] [101,50,0] rfl rfl fun a w F hS=>Zb (wp_seq ?_)
 refine Zd hS rfl (fun hc1=>?_) (fun hc1=>?_)
 ·skip
  have hil:i<g.txs.length:=by simp at hc1;omega
  have hio:=hil
  have hxo:=hs.1.at hio
  refine wp_skip (Zb (wp_seq (wp_block (wp_seq ?_))))
  refine Zc hS (qy 3 Tryz.underlying22 r2 (qf (oR true 3 .t) r1 qz (qf (oH [.int .i64 0,.bool false,.slice none 0 0] 102) trivial qz (qS 3 102 r2 r1 qZ)))) hB [23,22,21,5,3,2,1] [102,101,50,0] (fun _=>rfl) (fun _=>rfl) fun τ a w F hS=>?_
  try dsimp only [RS.sub,SF.sub,CF.sub,csub,Anc.sub,List.map,Zg,xL,xM,Nat.reduceAdd,xD,xE,xT,xU,xC,xN,zCF,ldSF,Zm,rTx,Zs,ZC,rInt,rOp,rCmd,ZbI] at hS
  generalize τ 5=v5 at hS
  try simp only [Int.toNat_natCast] at hS
  refine Zb ?_
  refine Zc hS (qM rfl rfl (qe 3 102 r1 r1 (qf (oP (Zio (Go.Gm.nth g.txs i) (by omega)) Tryz.func52 (Args.one (.pagg .t))) r1 qz (qf (oB [(0,_),(1,.tmp 29)] [.int .i64 0,.int .i64 0,.bool false,.slice none 0 0,.int .i64 0,.slice none 0 0,.int .i64 0,.int .i64 0,.int .i64 0,.int .i64 0] [(0,1),(1,3),(4,2),(6,1),(7,1),(8,1),(9,1)] (.one rfl qi one_int (by kernel_rfl) (.agg rfl (.conv .t .agg) (by kernel_rfl) (by kernel_rfl) .nil))) r1 qz (qf (Zj (sz:=10) (zs:=[.int .i64 0,.int .i64 0,.bool false,.slice none 0 0,.int .i64 0,.slice none 0 0,.int .i64 0,.int .i64 0,.int .i64 0,.int .i64 0]) (r:=[(0,.tmp 30)]) (l:=[_,_,_,_,_,_,_,_,_,_]) Tryz.underlying26 (by kernel_rfl) (by kernel_rfl) (by kernel_rfl) (by kernel_rfl) rfl rfl (.agg rfl .t (by kernel_rfl) (by kernel_rfl) .nil) rfl) r1 qz (qf (o_append (sz:=10) (bs:=112) 50 (.mk' Tryz.underlying26 (by kernel_rfl) (by kernel_rfl)) (by intro x;rfl) .is (.sl (.conv .t (entArr (l:=[.int .i64 1,.int .i64 (bareT (Go.Gm.nth g.txs i)).id,.bool (bareT (Go.Gm.nth g.txs i)).done,.sl rOp (bareT (Go.Gm.nth g.txs i)).ops,.int .i64 0,.is (.slice none 0 0),.int .i64 0,.int .i64 0,.int .i64 0,.int .i64 0]) (R:=rCmd) (l':=[Zdt (Go.Gm.nth g.txs i)]) rfl ⟨PVLe.refl,PVLe.refl,PVLe.refl,PVLe.refl,PVLe.refl,PVLe.nilSl,PVLe.refl,PVLe.refl,PVLe.refl,PVLe.refl,trivial⟩))) (by simp only [List.length_append,List.length_cons,List.length_nil];omega) (by decide)) ⟨rfl,rfl,trivial⟩ ⟨rfl,trivial⟩ (qN rfl rfl qZ))))))) hB [23,22,21,3,2,1] [102,101,50,0] (fun _=>rfl) (fun _=>rfl) fun τ a w F hS=>?_
  try dsimp only [RS.sub,SF.sub,CF.sub,csub,Anc.sub,List.map,Zg,xL,xM,Nat.reduceAdd,xD,xE,xT,xU,xC,xN,zCF,ldSF,Zm,rTx,Zs,ZC,rInt,rOp,rCmd,ZbI] at hS
  generalize τ 32=v32 at hS
  refine Zh (Zb ?_)
  refine Za hS (qp r1 (qM rfl rfl qZ)) hB [23,22,21,3,2,1] [102,101,50,0] rfl rfl fun a w F hS=>Zb ?_
  replace hS:=hS.ent (i:=23) (s':=.pv (.int .i64 ((i+1:Nat):Int))) rfl (.int (Ze (by omega)))
  obtain ⟨F,hS⟩:=hS.nm [22,21,2,1,3,23] [101,0,50] rfl rfl
  exact ⟨((i+1),_,_),F,⟨by omega,(by rw [Zb4 hio,hq])⟩,hS,by omega⟩
 have hil:i=g.txs.length:=by simp at hc1;omega
 have hqe:out=(g.txs.map Zdt):=by rw [hq,hil,List.take_length]
 subst hqe
 refine wp_exit (Zi (Zi (Zo (Zb (wp_seq (wp_seq ?_))))))
 refine Za hS (qg 0 101 r1 r1 (qa 101 r1 r1 (qu Tryz.underlying22 r1 (qJ qZ)))) hB [37,36,35,3,2,1] [101,50,0] rfl rfl fun a w F hS=>Zb (wp_block ?_)
 refine Zl (σ:=(Nat)×(Value)×(List CmdD)) [1,2,35,36] [0,101] (fun s=>[(37,.pv (.int .i64 (s.1:Int))),(3,.pv (.is s.2.1))]) (fun s=>[(50,.ob (.val s.2.1) (Zy 45 10 rCmd s.2.2))]) (fun s=>s.1≤g.txs.length∧(s.2.2=(g.txs.map Zdt)++((g.txs.take s.1).filter Zak).map ZeI)) (fun s=>g.txs.length - s.1) ((0),(v),((g.txs.map Zdt))) hS ⟨rfl,rfl,rfl,rfl,rfl,rfl,trivial⟩ ⟨rfl,rfl,rfl,trivial⟩ ⟨Nat.zero_le _,(by simp)⟩ ?_
 clear hS;intro s a w F hC hS
 obtain ⟨i,v,out⟩:=s
 try dsimp only at hC
 obtain ⟨F,hS⟩:=hS.nm [37,36,35,3,2,1] [101,50,0] rfl rfl
 try dsimp only at hS
 obtain ⟨hi,hq⟩:=hC
 have hol:out.length≤1000+i:=by
   rw [hq,List.length_append,List.length_map,List.length_map]
   have h1:=List.length_filter_le Zak (g.txs.take i)
   rw [List.length_take] at h1
   omega
 have hfs:=fun h b hb=>Zes (f:=Zak) (m:=ZeI) (l:=g.txs) (i:=i) h b hb
 refine wp_seq ?_
 refine Za hS (qL r2) hB [38,37,36,35,3,2,1] [101,50,0] rfl rfl fun a w F hS=>Zb (wp_seq ?_)
 refine Zd hS rfl (fun hc2=>?_) (fun hc2=>?_)
 ·skip
  have hil:i<g.txs.length:=by simp at hc2;omega
  have hio:=hil
  have hxo:=hs.1.at hio
  refine wp_skip (Zb (wp_seq (wp_block (wp_seq ?_))))
  refine Zc hS (qy 3 Tryz.underlying22 r2 (qf (oR true 3 .t) r1 qz (qf (oH [.int .i64 0,.bool false,.slice none 0 0] 103) trivial qz (qS 3 103 r2 r1 qZ)))) hB [37,36,35,7,3,2,1] [103,101,50,0] (fun _=>rfl) (fun _=>rfl) fun τ a w F hS=>?_
  try dsimp only [RS.sub,SF.sub,CF.sub,csub,Anc.sub,List.map,Zg,xL,xM,Nat.reduceAdd,xD,xE,xT,xU,xC,xN,zCF,ldSF,Zm,rTx,Zs,ZC,rInt,rOp,rCmd,ZbI] at hS
  generalize τ 7=v7 at hS
  try simp only [Int.toNat_natCast] at hS
  refine Zb (wp_seq ?_)
  refine Zu hS (qe 3 103 r1 r1 (qe 3 103 r1 r1 (qf (oP (Zio (Go.Gm.nth g.txs i) (by omega)) Tryz.func52 (Args.one (.pagg .t))) r1 qz (qf (oP (Zhg (Go.Gm.nth g.txs i) (bareT (Go.Gm.nth g.txs i))) Tryz.func41 (Args.two (.pagg .t) .t)) r2 qz (qf (o_not .t) r1 qz qZ))))) hB [45,37,36,35,7,3,2,1] [103,101,50,0] rfl rfl fun a w F hS=>?_
  try dsimp only [List.map,xD,xE,xT,xU,ldSF,Zm,rTx,Zs,ZC,rInt,rOp,rCmd,ZbI] at hS
  refine Zb ?_
  refine Zd hS rfl (fun hc3=>?_) (fun hc3=>?_)
  ·skip
   have hrd:Zak (Go.Gm.nth g.txs i)=true:=by simpa [Zdz] using hc3
   have hst9:out ++ [ZeI (Go.Gm.nth g.txs i)] = (g.txs.map Zdt)++((g.txs.take (i+1)).filter Zak).map ZeI:=by rw [hfs hio true hrd,hq,List.append_assoc];rfl
   refine Zc hS (qM rfl rfl (qe 3 103 r1 r1 (qf (oB [(0,_),(1,.tmp 47)] [.int .i64 0,.int .i64 0,.bool false,.slice none 0 0,.int .i64 0,.slice none 0 0,.int .i64 0,.int .i64 0,.int .i64 0,.int .i64 0] [(0,1),(1,3),(4,2),(6,1),(7,1),(8,1),(9,1)] (.one rfl qi one_int (by kernel_rfl) (.agg rfl .t (by kernel_rfl) (by kernel_rfl) .nil))) r1 qz (qf (Zj (sz:=10) (zs:=[.int .i64 0,.int .i64 0,.bool false,.slice none 0 0,.int .i64 0,.slice none 0 0,.int .i64 0,.int .i64 0,.int .i64 0,.int .i64 0]) (r:=[(0,.tmp 48)]) (l:=[_,_,_,_,_,_,_,_,_,_]) Tryz.underlying26 (by kernel_rfl) (by kernel_rfl) (by kernel_rfl) (by kernel_rfl) rfl rfl (.agg rfl .t (by kernel_rfl) (by kernel_rfl) .nil) rfl) r1 qz (qf (o_append (sz:=10) (bs:=112) 50 (.mk' Tryz.underlying26 (by kernel_rfl) (by kernel_rfl)) (by intro x;rfl) .is (.sl (.conv .t (entArr (l:=[.int .i64 2,.int .i64 (Go.Gm.nth g.txs i).id,.bool (Go.Gm.nth g.txs i).done,.sl rOp (Go.Gm.nth g.txs i).ops,.int .i64 0,.is (.slice none 0 0),.int .i64 0,.int .i64 0,.int .i64 0,.int .i64 0]) (R:=rCmd) (l':=[ZeI (Go.Gm.nth g.txs i)]) rfl ⟨PVLe.refl,PVLe.refl,PVLe.refl,PVLe.refl,PVLe.refl,PVLe.nilSl,PVLe.refl,PVLe.refl,PVLe.refl,PVLe.refl,trivial⟩))) (by simp only [List.length_append,List.length_cons,List.length_nil];omega) (by decide)) ⟨rfl,rfl,trivial⟩ ⟨rfl,trivial⟩ (qN rfl rfl qZ)))))) hB [37,36,35,3,2,1] [103,101,50,0] (fun _=>rfl) (fun _=>rfl) fun τ a w F hS=>?_
   try dsimp only [RS.sub,SF.sub,CF.sub,csub,Anc.sub,List.map,Zg,xL,xM,Nat.reduceAdd,xD,xE,xT,xU,xC,xN,zCF,ldSF,Zm,rTx,Zs,ZC,rInt,rOp,rCmd,ZbI] at hS
   generalize τ 50=v50 at hS
   refine Zh (Zb ?_)
   refine Za hS (qp r1 (qM rfl rfl qZ)) hB [37,36,35,3,2,1] [103,101,50,0] rfl rfl fun a w F hS=>Zb ?_
   replace hS:=hS.ent (i:=37) (s':=.pv (.int .i64 ((i+1:Nat):Int))) rfl (.int (Ze (by omega)))
   obtain ⟨F,hS⟩:=hS.nm [36,35,2,1,3,37] [101,0,50] rfl rfl
   exact ⟨((i+1),_,_),F,⟨by omega,hst9⟩,hS,by omega⟩
  have hrd:Zak (Go.Gm.nth g.txs i)=false:=by simpa [Zdz] using hc3
  have hst9:out=(g.txs.map Zdt)++((g.txs.take (i+1)).filter Zak).map ZeI:=by rw [hfs hio false hrd,hq];simp
  refine wp_skip (Zh (Zb ?_))
  refine Za hS (qp r1 (qM rfl rfl qZ)) hB [37,36,35,3,2,1] [103,101,50,0] rfl rfl fun a w F hS=>Zb ?_
  replace hS:=hS.ent (i:=37) (s':=.pv (.int .i64 ((i+1:Nat):Int))) rfl (.int (Ze (by omega)))
  obtain ⟨F,hS⟩:=hS.nm [36,35,2,1,3,37] [101,0,50] rfl rfl
  exact ⟨((i+1),_,_),F,⟨by omega,hst9⟩,hS,by omega⟩
 have hil:i=g.txs.length:=by simp at hc2;omega
 have hqe:out=(g.txs.map Zdt)++((g.txs.filter Zak).map ZeI):=by rw [hq,hil,List.take_length]
 subst hqe
 refine wp_exit (Zi (Zi (Zo (Zb (wp_seq (wp_seq ?_))))))
 refine Za hS (qg 1 101 r1 r1 (qa 101 r1 r1 (qu Tryz.underlying23 r1 (qJ qZ)))) hB [55,54,53,3,2] [101,50,0] rfl rfl fun a w F hS=>Zb (wp_block ?_)
 refine Zl (σ:=(Nat)×(Value)×(List CmdD)) [2,53,54] [0,101] (fun s=>[(55,.pv (.int .i64 (s.1:Int))),(3,.pv (.is s.2.1))]) (fun s=>[(50,.ob (.val s.2.1) (Zy 45 10 rCmd s.2.2))]) (fun s=>s.1≤g.orders.length∧(s.2.2=((g.txs.map Zdt)++((g.txs.filter Zak).map ZeI))++(g.orders.take s.1).flatMap ZbM)) (fun s=>g.orders.length - s.1) ((0),(v),((g.txs.map Zdt)++((g.txs.filter Zak).map ZeI))) hS ⟨rfl,rfl,rfl,rfl,rfl,trivial⟩ ⟨rfl,rfl,rfl,trivial⟩ ⟨Nat.zero_le _,(by simp)⟩ ?_
 clear hS;intro s a w F hC hS
 obtain ⟨i,v,out⟩:=s
 try dsimp only at hC
 obtain ⟨F,hS⟩:=hS.nm [55,54,53,3,2] [101,50,0] rfl rfl
 try dsimp only at hS
 obtain ⟨hi,hq⟩:=hC
 have hqo:=hq
 have hol:out.length≤2000+1000*i:=by
   rw [hq,List.length_append,List.length_append,List.length_map,List.length_map]
   have h1:=List.length_filter_le Zak g.txs
   have h2:=Zd6 hs.2 i
   omega
 refine wp_seq ?_
 refine Za hS (qL r2) hB [56,55,54,53,3,2] [101,50,0] rfl rfl fun a w F hS=>Zb (wp_seq ?_)
 refine Zd hS rfl (fun hc4=>?_) (fun hc4=>?_)
 ·skip
  have hil:i<g.orders.length:=by simp at hc4;omega
  have hio:=hil
  have hoo:=hs.2.at hio
  refine wp_skip (Zb (wp_seq (wp_block (wp_seq ?_))))
  refine Zc hS (qy 2 Tryz.underlying23 r2 (qf (oR true 2 .t) r1 qz (qf (oH [.int .i64 0,.slice none 0 0] 104) trivial qz (qS 2 104 r2 r1 qZ)))) hB [55,54,53,9,3,2] [104,101,50,0] (fun _=>rfl) (fun _=>rfl) fun τ a w F hS=>?_
  try dsimp only [RS.sub,SF.sub,CF.sub,csub,Anc.sub,List.map,Zg,xL,xM,Nat.reduceAdd,xD,xE,xT,xU,xC,xN,zCF,ldSF,Zm,rTx,Zs,ZC,rInt,rOp,rCmd,ZbI] at hS
  generalize τ 9=v9 at hS
  try simp only [Int.toNat_natCast] at hS
  refine Zb (wp_seq ?_)
  refine Za hS (qC qZ) hB [55,54,53,10,9,3,2] [104,101,50,0] rfl rfl fun a w F hS=>Zb (wp_seq (wp_seq ?_))
  refine Za hS (qg 1 104 r1 r1 (qa 104 r1 r1 (qu Tryz.underlying41 r1 (qJ qZ)))) hB [62,61,60,55,54,53,10,9,3,2] [104,101,50,0] rfl rfl fun a w F hS=>Zb (wp_block ?_)
  replace hS:=hS.ent (i:=10) (s':=.pv (.sl rInt (((Go.Gm.nth g.orders i).txs.take 0).foldl ZbY []))) rfl (.nilSl)
  refine Zl (σ:=(Nat)) [2,3,9,53,54,55,60,61] [0,50,101,104] (fun s=>[(62,.pv (.int .i64 (s:Int))),(10,.pv (.sl rInt (((Go.Gm.nth g.orders i).txs.take s).foldl ZbY [])))]) (fun s=>[]) (fun s=>s≤(Go.Gm.nth g.orders i).txs.length∧(True)) (fun s=>(Go.Gm.nth g.orders i).txs.length - s) (0) hS ⟨rfl,rfl,rfl,rfl,rfl,rfl,rfl,rfl,rfl,rfl,trivial⟩ ⟨rfl,rfl,rfl,rfl,trivial⟩ ⟨Nat.zero_le _,trivial⟩ ?_
  clear hS;intro j a w F hC hS
  try dsimp only at hC
  obtain ⟨F,hS⟩:=hS.nm [62,61,60,55,54,53,10,9,3,2] [104,101,50,0] rfl rfl
  try dsimp only at hS
  obtain ⟨hi,hq⟩:=hC
  have hkl:=ZcE [] ((Go.Gm.nth g.orders i).txs.take j)
  rw [List.length_take] at hkl
  simp only [List.length_nil,Nat.zero_add] at hkl
  refine wp_seq ?_
  refine Za hS (qL r2) hB [63,62,61,60,55,54,53,10,9,3,2] [104,101,50,0] rfl rfl fun a w F hS=>Zb (wp_seq ?_)
  refine Zd hS rfl (fun hc5=>?_) (fun hc5=>?_)
  ·skip
   have hil:j<(Go.Gm.nth g.orders i).txs.length:=by simp at hc5;omega
   refine wp_skip (Zb (wp_seq (wp_block (wp_seq ?_))))
   refine Za hS (qy 1 Tryz.underlying41 r2 (qf (oR false 1 .t) r1 qz (qN rfl rfl qZ))) hB [62,61,60,55,54,53,12,10,9,3,2] [104,101,50,0] rfl rfl fun a w F hS=>?_
   try simp only [Int.toNat_natCast] at hS
   refine Zb ?_
   refine Za hS (qM rfl rfl (qM rfl rfl (qf (oP (ZeL _ (Go.Gm.nth (Go.Gm.nth g.orders i).txs j) (by omega)) Tryz.func53 (Args.two .t .t)) r2 qz (qN rfl rfl qZ)))) hB [62,61,60,55,54,53,10,9,3,2] [104,101,50,0] rfl rfl fun a w F hS=>Zh (Zb ?_)
   refine Za hS (qp r1 (qM rfl rfl qZ)) hB [62,61,60,55,54,53,10,9,3,2] [104,101,50,0] rfl rfl fun a w F hS=>Zb ?_
   replace hS:=hS.ent (i:=62) (s':=.pv (.int .i64 ((j+1:Nat):Int))) rfl (.int (Ze (by omega)))
   replace hS:=hS.ent (i:=10) (s':=.pv (.sl rInt (((Go.Gm.nth g.orders i).txs.take (j+1)).foldl ZbY []))) rfl ((.sl (by rw [Zt hil,List.foldl_append];rfl)))
   obtain ⟨F,hS⟩:=hS.nm [61,60,55,54,53,9,3,2,10,62] [104,101,50,0] rfl rfl
   exact ⟨(j+1),F,⟨by omega,trivial⟩,hS,by omega⟩
  have hil:j=(Go.Gm.nth g.orders i).txs.length:=by simp at hc5;omega
  have hjl:=hil
  rw [hil,List.take_length] at hS
  rw [show (Go.Gm.nth g.orders i).txs.foldl ZbY [] = (Go.Gm.nth g.orders i).txs.mergeSort leI from Zh9 (Zjb hr hio)] at hS
  have hsh:=Zdf ((Go.Gm.nth g.orders i).txs.mergeSort leI) (Go.Gm.nth g.orders i).txs
  refine wp_exit (Zi (Zi (Zo (Zb (wp_seq ?_)))))
  refine Za hS (qM rfl rfl (qg 1 104 r1 r1 (qa 104 r1 r1 (qf (oP (ZmD ((Go.Gm.nth g.orders i).txs.mergeSort leI) (Go.Gm.nth g.orders i).txs (by rw [List.length_mergeSort];omega) (by omega)) Tryz.func37 (Args.two .t .t)) r2 qz (qM rfl rfl (qf (o_extract .t rfl) r1 qz (qf (o_extract .t rfl) r1 qz (qN rfl rfl (qN rfl rfl qZ))))))))) hB [55,54,53,13,9,3,2] [104,101,50,0] rfl rfl fun a w F hS=>Zb (wp_seq ?_)
  refine Za hS (qM rfl rfl (qu Tryz.underlying65 r1 (qJ qZ))) hB [79,78,77,55,54,53,9,3,2] [104,101,50,0] rfl rfl fun a w F hS=>Zb (wp_block ?_)
  refine Zl (σ:=(Nat)×(Value)×(List CmdD)) [2,9,53,54,55,77,78] [0,101,104] (fun s=>[(79,.pv (.int .i64 (s.1:Int))),(3,.pv (.is s.2.1))]) (fun s=>[(50,.ob (.val s.2.1) (Zy 45 10 rCmd s.2.2))]) (fun s=>s.1≤(Zae ((Go.Gm.nth g.orders i).txs.mergeSort leI) (Go.Gm.nth g.orders i).txs).1.length∧(s.2.2=out++((Zae ((Go.Gm.nth g.orders i).txs.mergeSort leI) (Go.Gm.nth g.orders i).txs).1.take s.1).map (Zna (Go.Gm.nth g.orders i).key))) (fun s=>(Zae ((Go.Gm.nth g.orders i).txs.mergeSort leI) (Go.Gm.nth g.orders i).txs).1.length - s.1) ((0),(v),(out)) hS ⟨rfl,rfl,rfl,rfl,rfl,rfl,rfl,rfl,rfl,trivial⟩ ⟨rfl,rfl,rfl,rfl,trivial⟩ ⟨Nat.zero_le _,(by simp)⟩ ?_
  clear hS;intro s a w F hC hS
  obtain ⟨k,v,out2⟩:=s
  try dsimp only at hC
  obtain ⟨F,hS⟩:=hS.nm [79,78,77,55,54,53,9,3,2] [104,101,50,0] rfl rfl
  try dsimp only at hS
  obtain ⟨hi,hq⟩:=hC
  have hq2:=hq
  have hol2:out2.length≤out.length+k:=by rw [hq2,List.length_append,List.length_map,List.length_take];omega
  refine wp_seq ?_
  refine Za hS (qL r2) hB [80,79,78,77,55,54,53,9,3,2] [104,101,50,0] rfl rfl fun a w F hS=>Zb (wp_seq ?_)
  refine Zd hS rfl (fun hc6=>?_) (fun hc6=>?_)
  ·skip
   have hil:k<(Zae ((Go.Gm.nth g.orders i).txs.mergeSort leI) (Go.Gm.nth g.orders i).txs).1.length:=by simp at hc6;omega
   have hko:=hil
   refine wp_skip (Zb (wp_seq (wp_block (wp_seq ?_))))
   refine Zc hS (qy 2 Tryz.underlying65 r2 (qf (oR true 2 .t) r1 qz (qf (oH [.int .i64 0,.int .i64 0] 105) trivial qz (qS 2 105 r2 r1 qZ)))) hB [79,78,77,55,54,53,16,9,3,2] [105,104,101,50,0] (fun _=>rfl) (fun _=>rfl) fun τ a w F hS=>?_
   try dsimp only [RS.sub,SF.sub,CF.sub,csub,Anc.sub,List.map,Zg,xL,xM,Nat.reduceAdd,xD,xE,xT,xU,xC,xN,zCF,ldSF,Zm,rTx,Zs,ZC,rInt,rOp,rCmd,ZbI] at hS
   generalize τ 16=v16 at hS
   try simp only [Int.toNat_natCast] at hS
   refine Zb ?_
   refine Zc hS (qM rfl rfl (qg 0 104 r1 r1 (qa 104 r1 r1 (qg 0 105 r1 r1 (qa 105 r1 r1 (qg 1 105 r1 r1 (qa 105 r1 r1 (qf (oB [(0,_),(3,.tmp 85),(4,.tmp 87),(5,.tmp 89)] [.int .i64 0,.int .i64 0,.bool false,.slice none 0 0,.int .i64 0,.slice none 0 0,.int .i64 0,.int .i64 0,.int .i64 0,.int .i64 0] [(0,1),(1,3),(4,2),(6,1),(7,1),(8,1),(9,1)] (.one rfl qi one_int (by kernel_rfl) (.one rfl .t one_int (by kernel_rfl) (.one rfl .t one_int (by kernel_rfl) (.one rfl .t one_int (by kernel_rfl) .nil))))) r3 qz (qf (Zj (sz:=10) (zs:=[.int .i64 0,.int .i64 0,.bool false,.slice none 0 0,.int .i64 0,.slice none 0 0,.int .i64 0,.int .i64 0,.int .i64 0,.int .i64 0]) (r:=[(0,.tmp 90)]) (l:=[_,_,_,_,_,_,_,_,_,_]) Tryz.underlying26 (by kernel_rfl) (by kernel_rfl) (by kernel_rfl) (by kernel_rfl) rfl rfl (.agg rfl .t (by kernel_rfl) (by kernel_rfl) .nil) rfl) r1 qz (qf (o_append (sz:=10) (bs:=112) 50 (.mk' Tryz.underlying26 (by kernel_rfl) (by kernel_rfl)) (by intro x;rfl) .is (.sl (.conv .t (entArr (l:=[.int .i64 5,.int .i64 0,.bool false,.is (.slice none 0 0),.int .i64 0,.is (.slice none 0 0),.int .i64 (Go.Gm.nth g.orders i).key,.int .i64 (Go.Gm.nth (Zae ((Go.Gm.nth g.orders i).txs.mergeSort leI) (Go.Gm.nth g.orders i).txs).1 k).key,.int .i64 (Go.Gm.nth (Zae ((Go.Gm.nth g.orders i).txs.mergeSort leI) (Go.Gm.nth g.orders i).txs).1 k).val,.int .i64 0]) (R:=rCmd) (l':=[Zna (Go.Gm.nth g.orders i).key (Go.Gm.nth (Zae ((Go.Gm.nth g.orders i).txs.mergeSort leI) (Go.Gm.nth g.orders i).txs).1 k)]) rfl ⟨PVLe.refl,PVLe.refl,PVLe.refl,PVLe.nilSl,PVLe.refl,PVLe.nilSl,PVLe.refl,PVLe.refl,PVLe.refl,PVLe.refl,trivial⟩))) (by simp only [List.length_append,List.length_cons,List.length_nil];omega) (by decide)) ⟨rfl,rfl,trivial⟩ ⟨rfl,trivial⟩ (qN rfl rfl qZ))))))))))) hB [79,78,77,55,54,53,9,3,2] [105,104,101,50,0] (fun _=>rfl) (fun _=>rfl) fun τ a w F hS=>?_
   try dsimp only [RS.sub,SF.sub,CF.sub,csub,Anc.sub,List.map,Zg,xL,xM,Nat.reduceAdd,xD,xE,xT,xU,xC,xN,zCF,ldSF,Zm,rTx,Zs,ZC,rInt,rOp,rCmd,ZbI] at hS
   generalize τ 92=v92 at hS
   refine Zh (Zb ?_)
   refine Za hS (qp r1 (qM rfl rfl qZ)) hB [79,78,77,55,54,53,9,3,2] [105,104,101,50,0] rfl rfl fun a w F hS=>Zb ?_
   replace hS:=hS.ent (i:=79) (s':=.pv (.int .i64 ((k+1:Nat):Int))) rfl (.int (Ze (by omega)))
   obtain ⟨F,hS⟩:=hS.nm [78,77,55,54,53,9,2,3,79] [104,101,0,50] rfl rfl
   exact ⟨((k+1),_,_),F,⟨by omega,(by rw [Zb4 hko,hq2,List.append_assoc])⟩,hS,by omega⟩
  have hil:k=(Zae ((Go.Gm.nth g.orders i).txs.mergeSort leI) (Go.Gm.nth g.orders i).txs).1.length:=by simp at hc6;omega
  have hil2:=hil
  refine wp_exit (Zi (Zi (Zo (Zh (Zb ?_)))))
  refine Za hS (qp r1 (qM rfl rfl qZ)) hB [55,54,53,3,2] [104,101,50,0] rfl rfl fun a w F hS=>Zb ?_
  replace hS:=hS.ent (i:=55) (s':=.pv (.int .i64 ((i+1:Nat):Int))) rfl (.int (Ze (by omega)))
  obtain ⟨F,hS⟩:=hS.nm [54,53,2,3,55] [101,0,50] rfl rfl
  exact ⟨((i+1),_,(out2)),F,⟨by omega,(by rw [hq2,hil2,List.take_length,hqo,Zt hio,List.flatMap_append,List.append_assoc];simp [ZbM])⟩,hS,by omega⟩
 have hil:i=g.orders.length:=by simp at hc4;omega
 refine wp_exit (Zi (Zi (Zo (Zb (wp_seq ?_)))))
 refine Za hS (qM rfl rfl (qN rfl rfl qZ)) hB [2] [101,50,0] rfl rfl fun a w F hS=>Zb (wp_ret ?_)
 obtain ⟨F,hS⟩:=hS.give 50 2 rfl rfl
 refine Zn hfr hS rfl rfl rfl (.sl (by first | exact (Zcm hr).symm | (rw [ZbA hr,hq,hil,List.take_length])))
theorem Zk7 (c:CmdD) (hc:c.order.txs.length≤998):FnP Tryz.prog 66 [.agg (rCmd c)] (.bool (Zaj c)):=by
 refine FnP.mk Tryz.func66 rfl Tryz.ntmps66 rfl ?_
 intro B a w F hB hfr hS
 have hnl:(Za7 c).length=c.order.txs.length+5:=by unfold Za7;rw [List.length_append];simp only [List.length_cons,List.length_nil];omega
 refine wp_seq ?_
 refine Zc hS (qx 101 r1 qB) hB [2,1] [101,0] (fun _=>rfl) (fun _=>rfl) fun τ a w F hS=>?_
 try dsimp only [RS.sub,SF.sub,CF.sub,csub,Anc.sub,List.map,zCF] at hS
 generalize τ 1=v1 at hS
 refine Zb (wp_seq (wp_seq ?_))
 refine Zu hS (qg 0 101 r1 r1 (qa 101 r1 r1 (qf (oP (Zop c.kind) Tryz.func67 (Args.one .t)) r1 qz (qf (ZkJ (ft:=9) (off:=0) (by kernel_rfl) (by kernel_rfl) .t rfl) r1 qz (qf (Zkc Tryz.underlying9 .t (.cs (by kernel_rfl))) r1 qz (qM rfl rfl (qk rfl (fun h=>oL true 10 101 .is) r2 r1 (qk rfl (fun h=>oL true 10 101 .is) r2 r1 (qk rfl (fun h=>oP (ZpZ c) Tryz.func134 (Args.one (.pagg (.w h)))) r2 qz (qk rfl (fun h=>oP (ZmU c (usedR c)) Tryz.func133 (Args.two (.pagg (.w h)) (.w h))) r3 qz (qk rfl (fun h=>o_not (.w h)) r2 qz (qf (Z4 .t .t) r2 qz (qM rfl rfl (qv 1 101 rfl r2 r1 (qk rfl (fun h=>oF 2 101 (.w h .adr)) r2 r1 (qw 101 rfl r2 r1 (qk rfl (fun h=>Zaz Tryz.underlying38 (.w h)) r2 qz (qk rfl (fun h=>Zal (.w h) qi) r2 qz (qf (Z4 .t .t) r2 qz (qM rfl rfl (qv 0 101 rfl r2 r1 (qw 101 rfl r2 r1 (qk rfl (fun h=>o_eql (.w h) qi) r2 qz (qk rfl (fun h=>oM (.w h)) r2 qz (ZM.cons (ZeD.cond2 rfl rfl (fun h=>Zba (off:=9) 101 .is (by kernel_rfl) (by rfl))) r2 r1 (ZM.cons (ZeD.cond2 rfl rfl (fun h=>ZfB (ag:=false) (sz:=1) 101 (.w h .adr) (by kernel_rfl) (by kernel_rfl) (by kernel_rfl) (by rfl))) r2 r1 (ZM.cons (ZeD.cond2 rfl rfl (fun h=>Zm1 (Zob c.phen) Tryz.func71 rfl (by kernel_rfl) (Args.one (.w h)))) r2 qz (ZM.cons (ZeD.cond2 rfl rfl (fun h=>Zkc Tryz.underlying9 (.w h) (.cs (by kernel_rfl)))) r2 qz (qk rfl (fun h=>ZA (.w h) (.wc h)) r3 qz (qf (Z4 .t .t) r2 qz qZ)))))))))))))))))))))))))))))) hB [37,2,1] [101,0] rfl rfl fun a w F hS=>?_
 try dsimp only [List.map,xD,xE,xT,xU,ldSF] at hS
 refine Zb ?_
 refine Zd hS rfl (fun hc0=>?_) (fun hc0=>?_)
 ·skip
  have hg:false=Zaj c:=by
    unfold Zaj
    have hx:¬ Zi5 c:=by
      rintro ⟨g1,g2,g3,g4⟩
      simp only [Bool.or_eq_true,Bool.and_eq_true,decide_eq_true_eq,Bool.not_eq_true',decide_eq_false_iff_not] at hc0
      rcases hc0 with ((hx | hx) | hx) | hx
      · exact g1 hx
      · exact hx g2
      · omega
      · exact g4 hx
    rw [decide_eq_false hx]
    rfl
  refine wp_seq ?_
  refine Za hS qB hB [2,1] [101,0] rfl rfl fun a w F hS=>Zb (wp_ret (Zf ?_))
  refine Zn hfr hS rfl rfl rfl (.bool hg)
 have hhd:Zi5 c:=by
   rw [Bool.eq_false_iff] at hc0
   refine ⟨fun g=>hc0 ?_,Classical.byContradiction fun g=>hc0 ?_,Nat.le_of_not_lt fun g=>hc0 ?_,fun g=>hc0 ?_⟩
   · simp only [Bool.or_eq_true,Bool.and_eq_true,decide_eq_true_eq,Bool.not_eq_true',decide_eq_false_iff_not];exact .inl (.inl (.inl g))
   · simp only [Bool.or_eq_true,Bool.and_eq_true,decide_eq_true_eq,Bool.not_eq_true',decide_eq_false_iff_not];exact .inl (.inl (.inr g))
   · simp only [Bool.or_eq_true,Bool.and_eq_true,decide_eq_true_eq,Bool.not_eq_true',decide_eq_false_iff_not];exact .inl (.inr (by omega))
   · simp only [Bool.or_eq_true,Bool.and_eq_true,decide_eq_true_eq,Bool.not_eq_true',decide_eq_false_iff_not];exact .inr g
 have hol:=hhd.2.2.1
 refine wp_skip (Zb (wp_seq ?_))
 refine Zc hS (qg 1 101 r1 r1 (qf (oF 0 101 .adr) r1 r1 (qa 101 r1 r1 (qg 7 101 r1 r1 (qa 101 r1 r1 (qg 4 101 r1 r1 (qf (oF 0 101 .adr) r1 r1 (qa 101 r1 r1 (qg 6 101 r1 r1 (qa 101 r1 r1 (qg 8 101 r1 r1 (qa 101 r1 r1 (qf (Zcb (R:=rInt) (l:=[c.tx.id,c.id,c.order.key,c.key,c.place]) (sz:=1) (zs:=[.int .i64 0]) (r:=[(0,.tmp 40),(1,.tmp 42),(2,.tmp 45),(3,.tmp 47),(4,.tmp 49)]) 102 Tryz.underlying41 (by kernel_rfl) (by kernel_rfl) (by kernel_rfl) (by kernel_rfl) rfl rfl (.one rfl .t one_int (by kernel_rfl) (.one rfl .t one_int (by kernel_rfl) (.one rfl .t one_int (by kernel_rfl) (.one rfl .t one_int (by kernel_rfl) (.one rfl .t one_int (by kernel_rfl) .nil))))) rfl rfl (by intro x;rfl)) r5 qz (qg 4 101 r1 r1 (qf (oF 1 101 .adr) r1 r1 (qa 101 r1 r1 (qf (o_append (sz:=1) (bs:=8) 102 (.mk' Tryz.underlying41 (by kernel_rfl) (by kernel_rfl)) (by intro x;rfl) .same (.sl .t) (by simp only [List.length_cons,List.length_nil];omega) (by decide)) ⟨rfl,rfl,trivial⟩ ⟨rfl,trivial⟩ (qN rfl rfl qZ)))))))))))))))))) hB [3,2,1] [102,101,0] (fun _=>rfl) (fun _=>rfl) fun τ a w F hS=>?_
 try dsimp only [RS.sub,SF.sub,CF.sub,csub,Anc.sub,List.map,Zg,xL,xM,Nat.reduceAdd,xD,xE,xT,xU,xC,xN,zCF,ldSF] at hS
 generalize τ 54=v54 at hS
 refine Zb (wp_seq (wp_seq ?_))
 obtain ⟨F,hS⟩:=hS.give 102 3 rfl rfl
 obtain ⟨F,hS⟩:=hS.nm [3,2,1] [101,0] rfl rfl
 refine Za hS (qM rfl rfl (qu Tryz.underlying41 r1 (qJ qZ))) hB [57,56,55,2,1] [101,0] rfl rfl fun a w F hS=>Zb (wp_block ?_)
 obtain ⟨F,hS⟩:=hS.nm [57,56,55,1] [101,0] rfl rfl
 refine ZQ (σ:=Nat) (fun s=>(⟨[(1,.pv (.is v1)),(55,.pv (.sl rInt (Za7 c))),(56,.pv (.int .i64 ((Za7 c).length:Nat))),(57,.pv (.int .i64 (s:Nat)))],[(0,frame B),(101,.pt (.val v1) 45 [.pv (.int .i64 c.kind),.pv (.int .i64 c.tx.id),.pv (.bool c.tx.done),.pv (.sl rOp c.tx.ops),.pv (.int .i64 c.order.key),.pv (.sl rInt c.order.txs),.pv (.int .i64 c.key),.pv (.int .i64 c.id),.pv (.int .i64 c.place),.pv (.int .i64 c.phen)])]⟩:En)) (fun s=>s≤(Za7 c).length ∧ ∀ j,j<s→Zfs (nth (Za7 c) j)=true) (fun s=>(Za7 c).length - s) 0 hS ⟨Nat.zero_le _,fun j hj=>absurd hj (Nat.not_lt_zero _)⟩ ?_
 clear hS;intro i a w F hC hS
 try dsimp only at hC
 try dsimp only at hS
 obtain ⟨hi0,hq⟩:=hC
 refine wp_seq ?_
 refine Za hS (qL r2) hB [58,57,56,55,1] [101,0] rfl rfl fun a w F hS=>Zb (wp_seq ?_)
 refine Zd hS rfl (fun hc1=>?_) (fun hc1=>?_)
 ·skip
  have hi:i<(Za7 c).length:=by have h9:=of_decide_eq_true hc1;omega
  refine wp_skip (Zb (wp_seq (wp_block (wp_seq ?_))))
  refine Za hS (qy 1 Tryz.underlying41 r2 (qf (oR false 1 .t) r1 qz (qN rfl rfl qZ))) hB [57,56,55,5,1] [101,0] rfl rfl fun a w F hS=>Zb (wp_seq ?_)
  refine Za hS (qM rfl rfl (qf (Zbu .t qi) r1 qz (qM rfl rfl (qm rfl rfl rfl rfl (qk rfl (fun h=>Zal (.w h) qi) r2 qz (qf (Z4 .t .t) r2 qz qZ)))))) hB [66,57,56,55,1] [101,0] rfl rfl fun a w F hS=>Zb ?_
  refine Zd hS rfl (fun hc2=>?_) (fun hc2=>?_)
  ·skip
   have hg:false=Zaj c:=by
     unfold Zaj
     have hx:¬ (Za7 c).all Zfs=true:=by
       intro h
       rw [List.all_eq_true] at h
       have h9:=h _ (ZP hi)
       rw [Zhd] at h9
       rw [Int.toNat_natCast] at hc2
       simp only [Bool.or_eq_true,decide_eq_true_eq] at hc2
       omega
     rw [Bool.eq_false_iff.2 hx]
     simp
   refine wp_seq ?_
   refine Za hS qB hB [57,56,55,2,1] [101,0] rfl rfl fun a w F hS=>Zb (wp_ret (Zk (Zf (Zf (Zk (Zf ?_))))))
   refine Zn hfr hS rfl rfl rfl (.bool hg)
  have hqi:Zfs (nth (Za7 c) i)=true:=by
    rw [Int.toNat_natCast] at hc2
    rw [Zhd]
    simp only [Bool.or_eq_false_iff,decide_eq_false_iff_not] at hc2
    omega
  refine wp_skip (Zh (Zb ?_))
  refine Za hS (qp r1 (qM rfl rfl qZ)) hB [57,56,55,1] [101,0] rfl rfl fun a w F hS=>Zb ?_
  replace hS:=hS.ent (i:=57) (s':=.pv (.int .i64 ((i+1:Nat):Int))) rfl (.int (Ze (by omega)))
  obtain ⟨F,hS⟩:=hS.nm [57,56,55,1] [101,0] rfl rfl
  exact ⟨i+1,F,⟨by omega,fun j hj=>(Nat.lt_or_ge j i).elim (hq j) (fun h1=>(show i=j by omega) ▸ hqi)⟩,hS,by omega⟩
 have halln:(Za7 c).all Zfs=true:=by
   rw [List.all_eq_true]
   intro x hx
   obtain ⟨j,hj,rfl⟩:=List.getElem_of_mem hx
   rw [← Zq hj]
   exact hq j (by have h9:=of_decide_eq_false hc1;omega)
 refine wp_exit (Zi (Zi (Zo (Zb (wp_seq (wp_seq ?_))))))
 refine Za hS (qg 1 101 r1 r1 (qf (oF 2 101 .adr) r1 r1 (qa 101 r1 r1 (qu Tryz.underlying38 r1 (qJ qZ))))) hB [72,71,70] [101,0] rfl rfl fun a w F hS=>Zb (wp_block ?_)
 obtain ⟨F,hS⟩:=hS.nm [72,71,70] [0] rfl rfl
 refine ZQ (σ:=Nat) (fun s=>(⟨[(70,.pv (.sl rOp c.tx.ops)),(71,.pv (.int .i64 (c.tx.ops.length:Nat))),(72,.pv (.int .i64 (s:Nat)))],[(0,frame B)]⟩:En)) (fun s=>s≤c.tx.ops.length ∧ ∀ j,j<s→Z0 (nth c.tx.ops j)=true) (fun s=>c.tx.ops.length - s) 0 hS ⟨Nat.zero_le _,fun j hj=>absurd hj (Nat.not_lt_zero _)⟩ ?_
 clear hS;intro k a w F hC hS
 try dsimp only at hC
 try dsimp only at hS
 obtain ⟨hk0,hqo⟩:=hC
 refine wp_seq ?_
 refine Za hS (qL r2) hB [73,72,71,70] [0] rfl rfl fun a w F hS=>Zb (wp_seq ?_)
 refine Zd hS rfl (fun hc3=>?_) (fun hc3=>?_)
 ·skip
  have hi:k<c.tx.ops.length:=by have h9:=of_decide_eq_true hc3;omega
  refine wp_skip (Zb (wp_seq (wp_block (wp_seq ?_))))
  refine Zc hS (qy 4 Tryz.underlying38 r2 (qf (oR true 4 .t) r1 qz (qf (oH [.bool false,.int .i64 0,.int .i64 0,.int .i64 0] 103) trivial qz (qS 4 103 r2 r1 qZ)))) hB [72,71,70,7] [103,0] (fun _=>rfl) (fun _=>rfl) fun τ a w F hS=>?_
  try dsimp only [RS.sub,SF.sub,CF.sub,csub,Anc.sub,List.map,Zg,xL,xM,Nat.reduceAdd,xD,xE,xT,xU,xC,xN,zCF,ldSF] at hS
  generalize τ 7=v7 at hS
  rw [Int.toNat_natCast] at hS
  refine Zb (wp_seq ?_)
  refine Za hS (qe 4 103 r1 r1 (qf (oP (ZfJ (nth c.tx.ops k)) Tryz.func97 (Args.one (.pagg .t))) r1 qz (qf (o_neq .t qi) r1 qz qZ))) hB [78,72,71,70] [0] rfl rfl fun a w F hS=>Zb ?_
  refine Zd hS rfl (fun hc4=>?_) (fun hc4=>?_)
  ·skip
   have hg:false=Zaj c:=by
     unfold Zaj
     have hx:¬ c.tx.ops.all Z0=true:=by
       intro h
       rw [List.all_eq_true] at h
       have h9:=h _ (ZP hi)
       rw [ZjU.2 h9] at hc4
       simp at hc4
     rw [Bool.eq_false_iff.2 hx]
     simp
   refine wp_seq ?_
   refine Za hS qB hB [72,71,70,2] [0] rfl rfl fun a w F hS=>Zb (wp_ret (Zk (Zf (Zf (Zk (Zf ?_))))))
   refine Zn hfr hS rfl rfl rfl (.bool hg)
  have hqi:Z0 (nth c.tx.ops k)=true:=ZjU.1 (by simpa using hc4)
  refine wp_skip (Zh (Zb ?_))
  refine Za hS (qp r1 (qM rfl rfl qZ)) hB [72,71,70] [0] rfl rfl fun a w F hS=>Zb ?_
  replace hS:=hS.ent (i:=72) (s':=.pv (.int .i64 ((k+1:Nat):Int))) rfl (.int (Ze (by omega)))
  obtain ⟨F,hS⟩:=hS.nm [72,71,70] [0] rfl rfl
  exact ⟨k+1,F,⟨by omega,fun j hj=>(Nat.lt_or_ge j k).elim (hqo j) (fun h1=>(show k=j by omega) ▸ hqi)⟩,hS,by omega⟩
 have hallo:c.tx.ops.all Z0=true:=by
   rw [List.all_eq_true]
   intro x hx
   obtain ⟨j,hj,rfl⟩:=List.getElem_of_mem hx
   rw [← Zq hj]
   exact hqo j (by have h9:=of_decide_eq_false hc3;omega)
 have hg:true=Zaj c:=by unfold Zaj;rw [decide_eq_true hhd,halln,hallo];rfl
 refine wp_exit (Zi (Zi (Zo (Zb (wp_seq ?_)))))
 refine Za hS qB hB [2] [0] rfl rfl fun a w F hS=>Zb (wp_ret ?_)
 refine Zn hfr hS rfl rfl rfl (.bool hg)
theorem Zbs (k:Int):(ZO k).s.length≤4:=by
 rcases Classical.em (1≤k∧k≤12) with h | h
 · rcases kinds h with rfl | rfl | rfl | rfl | rfl | rfl | rfl | rfl | rfl | rfl | rfl | rfl <;> decide +kernel
 · have:(ZO k).s = []:=Classical.byContradiction fun hx=>h (Zf2 hx)
   rw [this];simp
theorem ZjB (p:Int):(Za1 p).length≤3:=by
 rcases Classical.em (Za1 p = []) with h | h
 · rw [h];simp
 · have:=(ZiH h).1
   have:p=1∨p=2∨p=3∨p=4∨p=5:=by omega
   rcases this with rfl | rfl | rfl | rfl | rfl <;> decide +kernel
theorem Zcl (l:List Int) (h:∀ n ∈ l,-9223372036854775808≤n∧n≤9223372036854775807):∀ i,i≤l.length→(ZS l i).length≤22*i
 | 0,_=>by simp [ZS]
 | i+1,hi=>by
   have h1:=Zcl l h i (by omega)
   have h2:=ZN (h _ (ZP (show i<l.length by omega)))
   rw [ZS,List.length_append,List.length_append]
   split <;> simp only [List.length_cons,List.length_nil] <;> omega
theorem Zko {c:CmdD} (h:Zaj c=true):∀ n ∈ Za7 c,0≤n∧n≤2147483647:=by
 unfold Zaj at h
 simp only [Bool.and_eq_true] at h
 intro n hn
 exact Zhd.1 (List.all_eq_true.1 h.2.1 n hn)
theorem ZbB {c:CmdD} (h:Zaj c=true):Zi5 c:=by
 unfold Zaj at h
 simp only [Bool.and_eq_true] at h
 exact of_decide_eq_true h.1
theorem Zh5 (t:TxD) (h:0≤t.id∧t.id≤2147483647) (h2:t.ops.length≤4095):(ZcI t).length≤500000:=by
 have h1:=ZN (n:=t.id) (by omega)
 have h3:=ZcY t.ops
 unfold ZcI Za3
 rw [List.length_append,List.length_append]
 split <;> simp only [List.length_cons,List.length_nil] <;> omega
theorem Z7 {c:CmdD} (h:Zaj c=true) (hc:c.order.txs.length≤998):(Zah c).length≤1∧sumL (Zah c)≤500000:=by
 have hr:=Zko h
 have hh:=(ZbB h).2.2.1
 have m1:c.tx.id ∈ Za7 c:=by unfold Za7;simp
 have m2:c.id ∈ Za7 c:=by unfold Za7;simp
 unfold Zah
 split
 · have:=Zh5 c.tx (hr _ m1) hh
   exact ⟨Nat.le_refl _,by simpa [sumL] using this⟩
 · split
   · have:=ZN (n:=c.id) (by have:=hr _ m2;omega)
     exact ⟨Nat.le_refl _,by simp [sumL];omega⟩
   · split
     · have:=Zcl (c.order.key :: c.order.txs) (fun n hn=>by have:=hr n (by unfold Za7;simp at hn ⊢;rcases hn with rfl | hn;exact .inr (.inr (.inl rfl));exact .inr (.inr (.inr (.inr (.inr hn)))));omega) _ (Nat.le_refl _)
       refine ⟨Nat.le_refl _,?_⟩
       have e:(c.order.key :: c.order.txs).length=c.order.txs.length+1:=by simp
       simp only [sumL,ZbQ,List.map_cons,List.map_nil,List.sum_cons,List.sum_nil]
       omega
     · split
       · have:=Zcl [c.key,c.id,c.place] (fun n hn=>by have:=hr n (by unfold Za7;simp at hn ⊢;rcases hn with rfl | rfl | rfl;exact .inr (.inr (.inr (.inl rfl)));exact .inr (.inl rfl);exact .inr (.inr (.inr (.inr (.inl rfl)))));omega) _ (Nat.le_refl _)
         have h66:(ZbQ [c.key,c.id,c.place]).length≤66:=this
         refine ⟨Nat.le_refl _,?_⟩
         simp only [sumL,List.map_cons,List.map_nil,List.sum_cons,List.sum_nil]
         omega
       · split
         · have:=ZjB c.phen
           exact ⟨Nat.le_refl _,by simp [sumL];omega⟩
         · simp [sumL]
theorem Zms (c:CmdD) (hc:c.order.txs.length≤998):FnP Tryz.prog 28 [.agg (rCmd c)] (.bs (ZaN c)):=by
 refine FnP.mk Tryz.func28 rfl Tryz.ntmps28 rfl ?_
 intro B a w F hB hfr hS
 refine wp_seq ?_
 refine Zc hS (qx 101 r1 (qf (oN (.cs (by kernel_rfl))) trivial qz qZ)) hB [2,1] [101,0] (fun _=>rfl) (fun _=>rfl) fun τ a w F hS=>?_
 try dsimp only [RS.sub,SF.sub,CF.sub,csub,Anc.sub,List.map,zCF] at hS
 generalize τ 1=v1 at hS
 refine Zb (wp_seq (wp_seq ?_))
 refine Za hS (qe 10 101 r1 r1 (qf (oP (Zk7 c hc) Tryz.func66 (Args.one (.pagg .t))) r1 qz (qf (o_not .t) r1 qz qZ))) hB [6,2,1] [101,0] rfl rfl fun a w F hS=>Zb ?_
 refine Zd hS rfl (fun hc0=>?_) (fun hc0=>?_)
 ·skip
  have hg:([]:List UInt8)=ZaN c:=by unfold ZaN;rw [if_pos (by simpa using hc0)]
  refine wp_seq ?_
  refine Za hS (qf (oN (.cs (by kernel_rfl))) trivial qz qZ) hB [2,1] [101,0] rfl rfl fun a w F hS=>Zb (wp_ret (Zf ?_))
  refine Zn hfr hS rfl rfl rfl (.bs (by first | exact hg | (unfold ZaN;rw [if_neg (by rw [hrc];decide)])))
 have hrc:Zaj c=true:=by simpa using hc0
 refine wp_skip (Zb (wp_seq ?_))
 refine Zc hS (qg 0 101 r1 r1 (qa 101 r1 r1 (qf (oP (Zop c.kind) Tryz.func67 (Args.one .t)) r1 qz (qf (ZkJ (ft:=9) (off:=0) (by kernel_rfl) (by kernel_rfl) .t rfl) r1 qz (qf (Zcb (R:=rS) (l:=[(ZO c.kind).s]) (sz:=1) (zs:=[.string ⟨#[]⟩]) (r:=[(0,.tmp 10)]) 102 Tryz.underlying49 (by kernel_rfl) (by kernel_rfl) (by kernel_rfl) (by kernel_rfl) rfl rfl (.one rfl .t ZF (by kernel_rfl) .nil) rfl rfl (by intro x;rfl)) r1 qz (qN rfl rfl qZ)))))) hB [3,2,1] [102,101,0] (fun _=>rfl) (fun _=>rfl) fun τ a w F hS=>?_
 try dsimp only [RS.sub,SF.sub,CF.sub,csub,Anc.sub,List.map,Zg,xL,xM,Nat.reduceAdd,xD,xE,xT,xU,xC,xN,zCF,ldSF] at hS
 generalize τ 11=v11 at hS
 refine Zb (wp_seq (wp_seq ?_))
 refine Za hS (qg 0 101 r1 r1 (qa 101 r1 r1 qZ)) hB [13,3,2,1] [102,101,0] rfl rfl fun a w F hS=>Zb (wp_block (wp_seq (wp_seq ?_)))
 refine Za hS (qf (o_eql .t qi) r1 qz (qN rfl rfl qZ)) hB [14,13,3,2,1] [102,101,0] rfl rfl fun a w F hS=>Zb ?_
 refine Zd hS rfl (fun hc1=>?_) (fun hc1=>?_)
 ·skip
  have hk:c.kind=1∨c.kind=2:=by first | exact .inl (of_decide_eq_true hc1) | exact .inr (of_decide_eq_true hc1)
  have hlist:[(ZO c.kind).s,ZcI c.tx] = (ZO c.kind).s :: Zah c:=by unfold Zah;rw [if_pos hk]
  refine wp_skip (Zb ?_)
  refine Zd hS rfl (fun hc2=>?_) (fun hc2=>?_)
  ·skip
   have hk:c.kind=1∨c.kind=2:=by first | exact .inl (of_decide_eq_true hc2) | exact .inr (of_decide_eq_true hc2)
   have hlist:[(ZO c.kind).s,ZcI c.tx] = (ZO c.kind).s :: Zah c:=by unfold Zah;rw [if_pos hk]
   refine Zc hS (qM rfl rfl (qg 1 101 r1 r1 (qf (oL true 3 101 .adr) r1 r1 (qf (oP (ZjT c.tx (by have:=(ZbB hrc).2.2.1;omega)) Tryz.func68 (Args.one (.pagg .t))) r1 qz (qf (Zj (sz:=1) (zs:=[.string ⟨#[]⟩]) (r:=[(0,.tmp 20)]) (l:=[_]) Tryz.underlying49 (by kernel_rfl) (by kernel_rfl) (by kernel_rfl) (by kernel_rfl) rfl rfl (.one rfl .t ZF (by kernel_rfl) .nil) rfl) r1 qz (qf (o_append (sz:=1) (bs:=16) 102 (.mk' Tryz.underlying49 (by kernel_rfl) (by kernel_rfl)) (by intro x;rfl) .is (.arr (l':=[ZcI c.tx]) .t) (by simp only [List.length_cons,List.length_nil];omega) (by decide)) ⟨rfl,rfl,trivial⟩ ⟨rfl,trivial⟩ (qN rfl rfl qZ))))))) hB [3,2] [102,101,0] (fun _=>rfl) (fun _=>rfl) fun τ a w F hS=>?_
   try dsimp only [RS.sub,SF.sub,CF.sub,csub,Anc.sub,List.map,Zg,xL,xM,Nat.reduceAdd,xD,xE,xT,xU,xC,xN,zCF,ldSF] at hS
   generalize τ 22=v22 at hS
   refine Zh (Zb (wp_seq ?_))
   rw [hlist] at hS
   obtain ⟨F,hS⟩:=hS.give 102 3 rfl rfl
   obtain ⟨F,hS⟩:=hS.nm [3,2] [101,0] rfl rfl
   refine Za hS (qM rfl rfl (qf (oP (Zet ((ZO c.kind).s :: Zah c) (by have:=(Z7 hrc hc).1;simp only [List.length_cons];omega) (by have h8:=(Z7 hrc hc).2;have h9:=Zbs c.kind;unfold sumL at h8 ⊢;rw [List.map_cons,List.sum_cons];omega)) Tryz.func72 (Args.one .t)) r1 qz (qN rfl rfl qZ))) hB [2] [101,0] rfl rfl fun a w F hS=>Zb (wp_ret ?_)
   refine Zn hfr hS rfl rfl rfl (.bs (by first | exact hg | (unfold ZaN;rw [if_neg (by rw [hrc];decide)])))
  exact Bool.noConfusion (hc1.symm.trans hc2)
 have hn:=of_decide_eq_false hc1
 refine Za hS (qf (o_eql .t qi) r1 qz (qN rfl rfl qZ)) hB [14,13,3,2,1] [102,101,0] rfl rfl fun a w F hS=>Zb ?_
 refine Zd hS rfl (fun hc3=>?_) (fun hc3=>?_)
 ·skip
  have hk:c.kind=1∨c.kind=2:=by first | exact .inl (of_decide_eq_true hc3) | exact .inr (of_decide_eq_true hc3)
  have hlist:[(ZO c.kind).s,ZcI c.tx] = (ZO c.kind).s :: Zah c:=by unfold Zah;rw [if_pos hk]
  refine Zc hS (qM rfl rfl (qg 1 101 r1 r1 (qf (oL true 3 101 .adr) r1 r1 (qf (oP (ZjT c.tx (by have:=(ZbB hrc).2.2.1;omega)) Tryz.func68 (Args.one (.pagg .t))) r1 qz (qf (Zj (sz:=1) (zs:=[.string ⟨#[]⟩]) (r:=[(0,.tmp 20)]) (l:=[_]) Tryz.underlying49 (by kernel_rfl) (by kernel_rfl) (by kernel_rfl) (by kernel_rfl) rfl rfl (.one rfl .t ZF (by kernel_rfl) .nil) rfl) r1 qz (qf (o_append (sz:=1) (bs:=16) 102 (.mk' Tryz.underlying49 (by kernel_rfl) (by kernel_rfl)) (by intro x;rfl) .is (.arr (l':=[ZcI c.tx]) .t) (by simp only [List.length_cons,List.length_nil];omega) (by decide)) ⟨rfl,rfl,trivial⟩ ⟨rfl,trivial⟩ (qN rfl rfl qZ))))))) hB [3,2] [102,101,0] (fun _=>rfl) (fun _=>rfl) fun τ a w F hS=>?_
  try dsimp only [RS.sub,SF.sub,CF.sub,csub,Anc.sub,List.map,Zg,xL,xM,Nat.reduceAdd,xD,xE,xT,xU,xC,xN,zCF,ldSF] at hS
  generalize τ 22=v22 at hS
  refine Zh (Zb (wp_seq ?_))
  rw [hlist] at hS
  obtain ⟨F,hS⟩:=hS.give 102 3 rfl rfl
  obtain ⟨F,hS⟩:=hS.nm [3,2] [101,0] rfl rfl
  refine Za hS (qM rfl rfl (qf (oP (Zet ((ZO c.kind).s :: Zah c) (by have:=(Z7 hrc hc).1;simp only [List.length_cons];omega) (by have h8:=(Z7 hrc hc).2;have h9:=Zbs c.kind;unfold sumL at h8 ⊢;rw [List.map_cons,List.sum_cons];omega)) Tryz.func72 (Args.one .t)) r1 qz (qN rfl rfl qZ))) hB [2] [101,0] rfl rfl fun a w F hS=>Zb (wp_ret ?_)
  refine Zn hfr hS rfl rfl rfl (.bs (by first | exact hg | (unfold ZaN;rw [if_neg (by rw [hrc];decide)])))
 have hn:=of_decide_eq_false hc3
 refine wp_seq (wp_seq ?_)
 refine Za hS (qf (o_eql .t qi) r1 qz (qN rfl rfl qZ)) hB [23,13,3,2,1] [102,101,0] rfl rfl fun a w F hS=>Zb ?_
 refine Zd hS rfl (fun hc4=>?_) (fun hc4=>?_)
 ·skip
  have hk:c.kind=3∨c.kind=10:=by first | exact .inl (of_decide_eq_true hc4) | exact .inr (of_decide_eq_true hc4)
  have hlist:[(ZO c.kind).s,textL c.id] = (ZO c.kind).s :: Zah c:=by unfold Zah;rw [if_neg (by omega),if_pos hk]
  refine wp_skip (Zb ?_)
  refine Zd hS rfl (fun hc5=>?_) (fun hc5=>?_)
  ·skip
   have hk:c.kind=3∨c.kind=10:=by first | exact .inl (of_decide_eq_true hc5) | exact .inr (of_decide_eq_true hc5)
   have hlist:[(ZO c.kind).s,textL c.id] = (ZO c.kind).s :: Zah c:=by unfold Zah;rw [if_neg (by omega),if_pos hk]
   refine Zc hS (qM rfl rfl (qg 7 101 r1 r1 (qa 101 r1 r1 (qf (oP (Zc9 c.id) Tryz.func69 (Args.one .t)) r1 qz (qf (Zj (sz:=1) (zs:=[.string ⟨#[]⟩]) (r:=[(0,.tmp 29)]) (l:=[_]) Tryz.underlying49 (by kernel_rfl) (by kernel_rfl) (by kernel_rfl) (by kernel_rfl) rfl rfl (.one rfl .t ZF (by kernel_rfl) .nil) rfl) r1 qz (qf (o_append (sz:=1) (bs:=16) 102 (.mk' Tryz.underlying49 (by kernel_rfl) (by kernel_rfl)) (by intro x;rfl) .is (.arr (l':=[textL c.id]) .t) (by simp only [List.length_cons,List.length_nil];omega) (by decide)) ⟨rfl,rfl,trivial⟩ ⟨rfl,trivial⟩ (qN rfl rfl qZ))))))) hB [3,2] [102,101,0] (fun _=>rfl) (fun _=>rfl) fun τ a w F hS=>?_
   try dsimp only [RS.sub,SF.sub,CF.sub,csub,Anc.sub,List.map,Zg,xL,xM,Nat.reduceAdd,xD,xE,xT,xU,xC,xN,zCF,ldSF] at hS
   generalize τ 31=v31 at hS
   refine Zh (Zb (wp_seq ?_))
   rw [hlist] at hS
   obtain ⟨F,hS⟩:=hS.give 102 3 rfl rfl
   obtain ⟨F,hS⟩:=hS.nm [3,2] [101,0] rfl rfl
   refine Za hS (qM rfl rfl (qf (oP (Zet ((ZO c.kind).s :: Zah c) (by have:=(Z7 hrc hc).1;simp only [List.length_cons];omega) (by have h8:=(Z7 hrc hc).2;have h9:=Zbs c.kind;unfold sumL at h8 ⊢;rw [List.map_cons,List.sum_cons];omega)) Tryz.func72 (Args.one .t)) r1 qz (qN rfl rfl qZ))) hB [2] [101,0] rfl rfl fun a w F hS=>Zb (wp_ret ?_)
   refine Zn hfr hS rfl rfl rfl (.bs (by first | exact hg | (unfold ZaN;rw [if_neg (by rw [hrc];decide)])))
  exact Bool.noConfusion (hc4.symm.trans hc5)
 have hn:=of_decide_eq_false hc4
 refine Za hS (qf (o_eql .t qi) r1 qz (qN rfl rfl qZ)) hB [23,13,3,2,1] [102,101,0] rfl rfl fun a w F hS=>Zb ?_
 refine Zd hS rfl (fun hc6=>?_) (fun hc6=>?_)
 ·skip
  have hk:c.kind=3∨c.kind=10:=by first | exact .inl (of_decide_eq_true hc6) | exact .inr (of_decide_eq_true hc6)
  have hlist:[(ZO c.kind).s,textL c.id] = (ZO c.kind).s :: Zah c:=by unfold Zah;rw [if_neg (by omega),if_pos hk]
  refine Zc hS (qM rfl rfl (qg 7 101 r1 r1 (qa 101 r1 r1 (qf (oP (Zc9 c.id) Tryz.func69 (Args.one .t)) r1 qz (qf (Zj (sz:=1) (zs:=[.string ⟨#[]⟩]) (r:=[(0,.tmp 29)]) (l:=[_]) Tryz.underlying49 (by kernel_rfl) (by kernel_rfl) (by kernel_rfl) (by kernel_rfl) rfl rfl (.one rfl .t ZF (by kernel_rfl) .nil) rfl) r1 qz (qf (o_append (sz:=1) (bs:=16) 102 (.mk' Tryz.underlying49 (by kernel_rfl) (by kernel_rfl)) (by intro x;rfl) .is (.arr (l':=[textL c.id]) .t) (by simp only [List.length_cons,List.length_nil];omega) (by decide)) ⟨rfl,rfl,trivial⟩ ⟨rfl,trivial⟩ (qN rfl rfl qZ))))))) hB [3,2] [102,101,0] (fun _=>rfl) (fun _=>rfl) fun τ a w F hS=>?_
  try dsimp only [RS.sub,SF.sub,CF.sub,csub,Anc.sub,List.map,Zg,xL,xM,Nat.reduceAdd,xD,xE,xT,xU,xC,xN,zCF,ldSF] at hS
  generalize τ 31=v31 at hS
  refine Zh (Zb (wp_seq ?_))
  rw [hlist] at hS
  obtain ⟨F,hS⟩:=hS.give 102 3 rfl rfl
  obtain ⟨F,hS⟩:=hS.nm [3,2] [101,0] rfl rfl
  refine Za hS (qM rfl rfl (qf (oP (Zet ((ZO c.kind).s :: Zah c) (by have:=(Z7 hrc hc).1;simp only [List.length_cons];omega) (by have h8:=(Z7 hrc hc).2;have h9:=Zbs c.kind;unfold sumL at h8 ⊢;rw [List.map_cons,List.sum_cons];omega)) Tryz.func72 (Args.one .t)) r1 qz (qN rfl rfl qZ))) hB [2] [101,0] rfl rfl fun a w F hS=>Zb (wp_ret ?_)
  refine Zn hfr hS rfl rfl rfl (.bs (by first | exact hg | (unfold ZaN;rw [if_neg (by rw [hrc];decide)])))
 have hn:=of_decide_eq_false hc6
 refine wp_seq ?_
 refine Za hS (qf (o_eql .t qi) r1 qz (qN rfl rfl qZ)) hB [32,13,3,2,1] [102,101,0] rfl rfl fun a w F hS=>Zb ?_
 refine Zd hS rfl (fun hc7=>?_) (fun hc7=>?_)
 ·skip
  have hk:=of_decide_eq_true hc7
  have hlist:[(ZO c.kind).s,ZbQ (c.order.key :: c.order.txs)] = (ZO c.kind).s :: Zah c:=by unfold Zah;rw [if_neg (by omega),if_neg (by omega),if_pos hk]
  refine Zc hS (qM rfl rfl (qg 4 101 r1 r1 (qf (oF 0 101 .adr) r1 r1 (qa 101 r1 r1 (qf (Zcb (R:=rInt) (l:=[c.order.key]) (sz:=1) (zs:=[.int .i64 0]) (r:=[(0,.tmp 37)]) 103 Tryz.underlying41 (by kernel_rfl) (by kernel_rfl) (by kernel_rfl) (by kernel_rfl) rfl rfl (.one rfl .t one_int (by kernel_rfl) .nil) rfl rfl (by intro x;rfl)) r1 qz (qg 4 101 r1 r1 (qf (oF 1 101 .adr) r1 r1 (qa 101 r1 r1 (qf (o_append (sz:=1) (bs:=8) 103 (.mk' Tryz.underlying41 (by kernel_rfl) (by kernel_rfl)) (by intro x;rfl) .same (.sl .t) (by simp only [List.length_cons,List.length_nil];omega) (by decide)) ⟨rfl,rfl,trivial⟩ ⟨rfl,trivial⟩ (qf (o_lendRow 103 (words_c (c.order.key :: c.order.txs) (by simp;omega)) (fun _ _ _ _ _ h=>h) Tryz.func70 rfl (by kernel_rfl) .same) r1 r1 (qf (Zj (sz:=1) (zs:=[.string ⟨#[]⟩]) (r:=[(0,.tmp 43)]) (l:=[_]) Tryz.underlying49 (by kernel_rfl) (by kernel_rfl) (by kernel_rfl) (by kernel_rfl) rfl rfl (.one rfl .t ZF (by kernel_rfl) .nil) rfl) r1 qz (qf (o_append (sz:=1) (bs:=16) 102 (.mk' Tryz.underlying49 (by kernel_rfl) (by kernel_rfl)) (by intro x;rfl) .is (.arr (l':=[ZbQ (c.order.key :: c.order.txs)]) .t) (by simp only [List.length_cons,List.length_nil];omega) (by decide)) ⟨rfl,rfl,trivial⟩ ⟨rfl,trivial⟩ (qN rfl rfl qZ))))))))))))) hB [3,2] [103,102,101,0] (fun _=>rfl) (fun _=>rfl) fun τ a w F hS=>?_
  try dsimp only [RS.sub,SF.sub,CF.sub,csub,Anc.sub,List.map,Zg,xL,xM,Nat.reduceAdd,xD,xE,xT,xU,xC,xN,zCF,ldSF] at hS
  generalize τ 45=v45 at hS
  generalize τ 42=v42 at hS
  refine Zh (Zb (wp_seq ?_))
  rw [hlist] at hS
  obtain ⟨F,hS⟩:=hS.give 102 3 rfl rfl
  obtain ⟨F,hS⟩:=hS.nm [3,2] [103,101,0] rfl rfl
  refine Za hS (qM rfl rfl (qf (oP (Zet ((ZO c.kind).s :: Zah c) (by have:=(Z7 hrc hc).1;simp only [List.length_cons];omega) (by have h8:=(Z7 hrc hc).2;have h9:=Zbs c.kind;unfold sumL at h8 ⊢;rw [List.map_cons,List.sum_cons];omega)) Tryz.func72 (Args.one .t)) r1 qz (qN rfl rfl qZ))) hB [2] [103,101,0] rfl rfl fun a w F hS=>Zb (wp_ret ?_)
  refine Zn hfr hS rfl rfl rfl (.bs (by first | exact hg | (unfold ZaN;rw [if_neg (by rw [hrc];decide)])))
 have hn:=of_decide_eq_false hc7
 refine wp_seq ?_
 refine Za hS (qf (o_eql .t qi) r1 qz (qN rfl rfl qZ)) hB [46,13,3,2,1] [102,101,0] rfl rfl fun a w F hS=>Zb ?_
 refine Zd hS rfl (fun hc8=>?_) (fun hc8=>?_)
 ·skip
  have hk:=of_decide_eq_true hc8
  have hlist:[(ZO c.kind).s,ZbQ [c.key,c.id,c.place]] = (ZO c.kind).s :: Zah c:=by unfold Zah;rw [if_neg (by omega),if_neg (by omega),if_neg (by omega),if_pos hk]
  refine Zc hS (qM rfl rfl (qg 6 101 r1 r1 (qa 101 r1 r1 (qg 7 101 r1 r1 (qa 101 r1 r1 (qg 8 101 r1 r1 (qa 101 r1 r1 (qf (Zj (sz:=1) (zs:=[.int .i64 0]) (r:=[(0,.tmp 50),(1,.tmp 52),(2,.tmp 54)]) (l:=[_,_,_]) Tryz.underlying41 (by kernel_rfl) (by kernel_rfl) (by kernel_rfl) (by kernel_rfl) rfl rfl (.one rfl .t one_int (by kernel_rfl) (.one rfl .t one_int (by kernel_rfl) (.one rfl .t one_int (by kernel_rfl) .nil))) rfl) r3 qz (qf (oP (words_c [c.key,c.id,c.place] (by simp)) Tryz.func70 (Args.one (.conv .t (Ent.arrSl (R:=rInt) (l:=[c.key,c.id,c.place]) rfl)))) r1 qz (qf (Zj (sz:=1) (zs:=[.string ⟨#[]⟩]) (r:=[(0,.tmp 56)]) (l:=[_]) Tryz.underlying49 (by kernel_rfl) (by kernel_rfl) (by kernel_rfl) (by kernel_rfl) rfl rfl (.one rfl .t ZF (by kernel_rfl) .nil) rfl) r1 qz (qf (o_append (sz:=1) (bs:=16) 102 (.mk' Tryz.underlying49 (by kernel_rfl) (by kernel_rfl)) (by intro x;rfl) .is (.arr (l':=[ZbQ [c.key,c.id,c.place]]) .t) (by simp only [List.length_cons,List.length_nil];omega) (by decide)) ⟨rfl,rfl,trivial⟩ ⟨rfl,trivial⟩ (qN rfl rfl qZ)))))))))))) hB [3,2] [102,101,0] (fun _=>rfl) (fun _=>rfl) fun τ a w F hS=>?_
  try dsimp only [RS.sub,SF.sub,CF.sub,csub,Anc.sub,List.map,Zg,xL,xM,Nat.reduceAdd,xD,xE,xT,xU,xC,xN,zCF,ldSF] at hS
  generalize τ 58=v58 at hS
  refine Zh (Zb (wp_seq ?_))
  rw [hlist] at hS
  obtain ⟨F,hS⟩:=hS.give 102 3 rfl rfl
  obtain ⟨F,hS⟩:=hS.nm [3,2] [101,0] rfl rfl
  refine Za hS (qM rfl rfl (qf (oP (Zet ((ZO c.kind).s :: Zah c) (by have:=(Z7 hrc hc).1;simp only [List.length_cons];omega) (by have h8:=(Z7 hrc hc).2;have h9:=Zbs c.kind;unfold sumL at h8 ⊢;rw [List.map_cons,List.sum_cons];omega)) Tryz.func72 (Args.one .t)) r1 qz (qN rfl rfl qZ))) hB [2] [101,0] rfl rfl fun a w F hS=>Zb (wp_ret ?_)
  refine Zn hfr hS rfl rfl rfl (.bs (by first | exact hg | (unfold ZaN;rw [if_neg (by rw [hrc];decide)])))
 have hn:=of_decide_eq_false hc8
 refine wp_seq ?_
 refine Za hS (qf (o_eql .t qi) r1 qz (qN rfl rfl qZ)) hB [59,3,2,1] [102,101,0] rfl rfl fun a w F hS=>Zb ?_
 refine Zd hS rfl (fun hc9=>?_) (fun hc9=>?_)
 ·skip
  have hk:=of_decide_eq_true hc9
  have hlist:[(ZO c.kind).s,Za1 c.phen] = (ZO c.kind).s :: Zah c:=by unfold Zah;rw [if_neg (by omega),if_neg (by omega),if_neg (by omega),if_neg (by omega),if_pos hk]
  refine Zc hS (qM rfl rfl (qg 9 101 r1 r1 (qa 101 r1 r1 (qf (oP (Zob c.phen) Tryz.func71 (Args.one .t)) r1 qz (qf (Zj (sz:=1) (zs:=[.string ⟨#[]⟩]) (r:=[(0,.tmp 64)]) (l:=[_]) Tryz.underlying49 (by kernel_rfl) (by kernel_rfl) (by kernel_rfl) (by kernel_rfl) rfl rfl (.one rfl .t ZF (by kernel_rfl) .nil) rfl) r1 qz (qf (o_append (sz:=1) (bs:=16) 102 (.mk' Tryz.underlying49 (by kernel_rfl) (by kernel_rfl)) (by intro x;rfl) .is (.arr (l':=[Za1 c.phen]) .t) (by simp only [List.length_cons,List.length_nil];omega) (by decide)) ⟨rfl,rfl,trivial⟩ ⟨rfl,trivial⟩ (qN rfl rfl qZ))))))) hB [3,2] [102,101,0] (fun _=>rfl) (fun _=>rfl) fun τ a w F hS=>?_
  try dsimp only [RS.sub,SF.sub,CF.sub,csub,Anc.sub,List.map,Zg,xL,xM,Nat.reduceAdd,xD,xE,xT,xU,xC,xN,zCF,ldSF] at hS
  generalize τ 66=v66 at hS
  refine Zh (Zb (wp_seq ?_))
  rw [hlist] at hS
  obtain ⟨F,hS⟩:=hS.give 102 3 rfl rfl
  obtain ⟨F,hS⟩:=hS.nm [3,2] [101,0] rfl rfl
  refine Za hS (qM rfl rfl (qf (oP (Zet ((ZO c.kind).s :: Zah c) (by have:=(Z7 hrc hc).1;simp only [List.length_cons];omega) (by have h8:=(Z7 hrc hc).2;have h9:=Zbs c.kind;unfold sumL at h8 ⊢;rw [List.map_cons,List.sum_cons];omega)) Tryz.func72 (Args.one .t)) r1 qz (qN rfl rfl qZ))) hB [2] [101,0] rfl rfl fun a w F hS=>Zb (wp_ret ?_)
  refine Zn hfr hS rfl rfl rfl (.bs (by first | exact hg | (unfold ZaN;rw [if_neg (by rw [hrc];decide)])))
 have hn:=of_decide_eq_false hc9
 have hlist:[(ZO c.kind).s] = (ZO c.kind).s :: Zah c:=by unfold Zah;rw [if_neg (by omega),if_neg (by omega),if_neg (by omega),if_neg (by omega),if_neg (by omega)]
 refine wp_skip (Zh (Zb (wp_seq ?_)))
 rw [hlist] at hS
 obtain ⟨F,hS⟩:=hS.give 102 3 rfl rfl
 obtain ⟨F,hS⟩:=hS.nm [59,3,2,1] [101,0] rfl rfl
 refine Za hS (qM rfl rfl (qf (oP (Zet ((ZO c.kind).s :: Zah c) (by have:=(Z7 hrc hc).1;simp only [List.length_cons];omega) (by have h8:=(Z7 hrc hc).2;have h9:=Zbs c.kind;unfold sumL at h8 ⊢;rw [List.map_cons,List.sum_cons];omega)) Tryz.func72 (Args.one .t)) r1 qz (qN rfl rfl qZ))) hB [2] [101,0] rfl rfl fun a w F hS=>Zb (wp_ret ?_)
 refine Zn hfr hS rfl rfl rfl (.bs (by first | exact hg | (unfold ZaN;rw [if_neg (by rw [hrc];decide)])))
theorem Zd9:∀ (r:List (List UInt8)) (x:List UInt8),Zau (x :: r)=x++r.flatMap fun y=>32 :: y
 | [],x=>by simp [Zau]
 | y :: r,x=>by rw [Zau,Zd9 r y,List.flatMap_cons];simp
theorem ZcH (l:List Int):∀ i,i≤l.length→ZS l i=Zau ((l.map textL).take i)
 | 0,_=>rfl
 | i+1,h=>by
   have hi:i<l.length:=by omega
   rw [ZS,ZcH l i (by omega),ZlA (by simpa using hi),show nth (l.map textL) i=textL (nth l i) by rw [Zq (by simpa using hi),Zq hi];simp]
   split <;> simp
theorem Zjg (l:List Int):ZbQ l=Zau (l.map textL):=by
 unfold ZbQ
 rw [ZcH l _ (Nat.le_refl _),show l.length=(l.map textL).length by simp,List.take_length]
theorem Zpk {x:List UInt8} (h:x≠[]) (k:∀ b ∈ x,32<b.toNat∧b.toNat<127):ZpJ x:=⟨h,fun j hj=>k _ (ZP hj)⟩
theorem ZmI {k:Int} (h:1≤k∧k≤12):ZpJ (ZO k).s:=by
 have:(ZO k).s≠[]∧(ZO k).s.all (fun b=>decide (32<b.toNat) && decide (b.toNat<127))=true:=by
   rcases kinds h with rfl | rfl | rfl | rfl | rfl | rfl | rfl | rfl | rfl | rfl | rfl | rfl <;> decide +kernel
 refine Zpk this.1 fun b hb=>?_
 have h9:=List.all_eq_true.1 this.2 b hb
 simpa using h9
theorem Zm5 {k:Int} (h:¬ (1≤k∧k≤12)):(ZO k).s = []:=Classical.byContradiction fun hx=>h (Zf2 hx)
theorem Zjz {k:Int} (h:1≤k∧k≤12):nth [[],[97,100,100],[115,101,116],[100,101,108],[111,114,100],[109,111,118],[117,110,100,111],[114,101,100,111],[97,115,107],[119,104,121],[116,101,108,108],[115,105,122,101],[100,117,109,112]] k.toNat=(ZO k).s:=by
 rcases kinds h with rfl | rfl | rfl | rfl | rfl | rfl | rfl | rfl | rfl | rfl | rfl | rfl <;> rfl
theorem ZmK {p:Int} (h:¬ (0≤p∧p≤5)):Za1 p = []:=Classical.byContradiction fun hx=>h (by have:=(ZiH hx).1;omega)
theorem ZjN {p:Int} (h:0≤p∧p≤5):nth [[],[103,48],[103,49,97],[103,49,98],[103,49,99],[103,50]] p.toNat=Za1 p:=by
 have:p=0∨p=1∨p=2∨p=3∨p=4∨p=5:=by omega
 rcases this with rfl | rfl | rfl | rfl | rfl | rfl <;> rfl
theorem Znd (u v:CmdD):((((((decide (u.kind=v.kind) && decide (u.tx=v.tx)) && decide (u.order=v.order)) && decide (u.key=v.key)) && decide (u.id=v.id)) && decide (u.place=v.place)) && decide (u.phen=v.phen))=decide (u=v):=by
 obtain ⟨a1,a2,a3,a5,a6,a7,a8⟩:=u
 obtain ⟨b1,b2,b3,b5,b6,b7,b8⟩:=v
 rw [Bool.eq_iff_iff]
 simp [and_assoc]
theorem Zax {c:CmdD} (h:Zaj c=true):ZaN c=(ZO c.kind).s++(Zah c).flatMap fun y=>32 :: y:=by
 unfold ZaN
 rw [if_neg (by rw [h];decide),Zd9]
theorem Zm7 (k:Int):FnP Tryz.prog 113 [.int .i64 k] (.bs (ZO k).s):=by
 refine FnP.mk Tryz.func113 rfl Tryz.ntmps113 rfl ?_
 intro B a w F hB hfr hS
 refine wp_seq ?_
 refine Za hS (qf (oN (.cs (by kernel_rfl))) trivial qz qZ) hB [2,0] [0] rfl rfl fun a w F hS=>Zb (wp_seq ?_)
 refine Zc hS (qf (Zcb (R:=rS) (l:=[[],[97,100,100],[115,101,116],[100,101,108],[111,114,100],[109,111,118],[117,110,100,111],[114,101,100,111],[97,115,107],[119,104,121],[116,101,108,108],[115,105,122,101],[100,117,109,112]]) (sz:=1) (zs:=[.string ⟨#[]⟩]) (r:=[(0,_),(1,_),(2,_),(3,_),(4,_),(5,_),(6,_),(7,_),(8,_),(9,_),(10,_),(11,_),(12,_)]) 101 Tryz.underlying49 (by kernel_rfl) (by kernel_rfl) (by kernel_rfl) (by kernel_rfl) rfl rfl (.one rfl (.cs (by kernel_rfl)) ZF (by kernel_rfl) (.one rfl (.cs (by kernel_rfl)) ZF (by kernel_rfl) (.one rfl (.cs (by kernel_rfl)) ZF (by kernel_rfl) (.one rfl (.cs (by kernel_rfl)) ZF (by kernel_rfl) (.one rfl (.cs (by kernel_rfl)) ZF (by kernel_rfl) (.one rfl (.cs (by kernel_rfl)) ZF (by kernel_rfl) (.one rfl (.cs (by kernel_rfl)) ZF (by kernel_rfl) (.one rfl (.cs (by kernel_rfl)) ZF (by kernel_rfl) (.one rfl (.cs (by kernel_rfl)) ZF (by kernel_rfl) (.one rfl (.cs (by kernel_rfl)) ZF (by kernel_rfl) (.one rfl (.cs (by kernel_rfl)) ZF (by kernel_rfl) (.one rfl (.cs (by kernel_rfl)) ZF (by kernel_rfl) (.one rfl (.cs (by kernel_rfl)) ZF (by kernel_rfl) .nil))))))))))))) rfl rfl (by intro x;rfl)) trivial qz (qN rfl rfl qZ)) hB [3,2,0] [101,0] (fun _=>rfl) (fun _=>rfl) fun τ a w F hS=>?_
 try dsimp only [RS.sub,SF.sub,CF.sub,csub,Anc.sub,List.map,Zg,xL,xM,Nat.reduceAdd,xD,xE,xT,xU,xC,xN,zCF] at hS
 generalize τ 4=v4 at hS
 refine Zb (wp_seq (wp_seq ?_))
 refine Za hS (qM rfl rfl (qf (Zbu .t qi) r1 qz (qM rfl rfl (qm rfl rfl rfl rfl (qk rfl (fun h=>Zal (.w h) qi) r2 qz (qf (Z4 .t .t) r2 qz qZ)))))) hB [10,3,2,0] [101,0] rfl rfl fun a w F hS=>Zb ?_
 refine Zd hS rfl (fun hc0=>?_) (fun hc0=>?_)
 ·skip
  have hg:([]:List UInt8)=(ZO k).s:=(Zm5 (by simp at hc0;omega)).symm
  refine wp_seq ?_
  refine Za hS (qf (oN (.cs (by kernel_rfl))) trivial qz qZ) hB [3,2,0] [101,0] rfl rfl fun a w F hS=>Zb (wp_ret (Zf ?_))
  refine Zn hfr hS rfl rfl rfl (.bs (by first | exact hg | exact Zjz ⟨by omega,by omega⟩))
 have hk:1≤k∧k≤12:=by simp at hc0;omega
 refine wp_skip (Zb (wp_seq ?_))
 obtain ⟨F,hS⟩:=hS.give 101 3 rfl rfl
 obtain ⟨F,hS⟩:=hS.nm [10,3,2,0] [0] rfl rfl
 refine Za hS (qM rfl rfl (qM rfl rfl (qf (ZX (sz:=1) (.mk Tryz.underlying49 (by kernel_rfl)) (by intro x;rfl) .t .t (by omega) (by simp;omega)) r2 qz (qf (oR false 1 .t) r1 qz (qN rfl rfl qZ))))) hB [2] [0] rfl rfl fun a w F hS=>Zb (wp_ret ?_)
 refine Zn hfr hS rfl rfl rfl (.bs (by first | exact hg | exact Zjz ⟨by omega,by omega⟩))
theorem ZhR (k:Int):FnP Tryz.prog 117 [.int .i64 k] (.bs (Za1 k)):=by
 refine FnP.mk Tryz.func117 rfl Tryz.ntmps117 rfl ?_
 intro B a w F hB hfr hS
 refine wp_seq ?_
 refine Za hS (qf (oN (.cs (by kernel_rfl))) trivial qz qZ) hB [2,0] [0] rfl rfl fun a w F hS=>Zb (wp_seq ?_)
 refine Zc hS (qf (Zcb (R:=rS) (l:=[[],[103,48],[103,49,97],[103,49,98],[103,49,99],[103,50]]) (sz:=1) (zs:=[.string ⟨#[]⟩]) (r:=[(0,_),(1,_),(2,_),(3,_),(4,_),(5,_)]) 101 Tryz.underlying49 (by kernel_rfl) (by kernel_rfl) (by kernel_rfl) (by kernel_rfl) rfl rfl (.one rfl (.cs (by kernel_rfl)) ZF (by kernel_rfl) (.one rfl (.cs (by kernel_rfl)) ZF (by kernel_rfl) (.one rfl (.cs (by kernel_rfl)) ZF (by kernel_rfl) (.one rfl (.cs (by kernel_rfl)) ZF (by kernel_rfl) (.one rfl (.cs (by kernel_rfl)) ZF (by kernel_rfl) (.one rfl (.cs (by kernel_rfl)) ZF (by kernel_rfl) .nil)))))) rfl rfl (by intro x;rfl)) trivial qz (qN rfl rfl qZ)) hB [3,2,0] [101,0] (fun _=>rfl) (fun _=>rfl) fun τ a w F hS=>?_
 try dsimp only [RS.sub,SF.sub,CF.sub,csub,Anc.sub,List.map,Zg,xL,xM,Nat.reduceAdd,xD,xE,xT,xU,xC,xN,zCF] at hS
 generalize τ 4=v4 at hS
 refine Zb (wp_seq (wp_seq ?_))
 refine Za hS (qM rfl rfl (qf (Zbu .t qi) r1 qz (qM rfl rfl (qm rfl rfl rfl rfl (qk rfl (fun h=>Zal (.w h) qi) r2 qz (qf (Z4 .t .t) r2 qz qZ)))))) hB [10,3,2,0] [101,0] rfl rfl fun a w F hS=>Zb ?_
 refine Zd hS rfl (fun hc0=>?_) (fun hc0=>?_)
 ·skip
  have hg:([]:List UInt8)=(Za1 k):=(ZmK (by simp at hc0;omega)).symm
  refine wp_seq ?_
  refine Za hS (qf (oN (.cs (by kernel_rfl))) trivial qz qZ) hB [3,2,0] [101,0] rfl rfl fun a w F hS=>Zb (wp_ret (Zf ?_))
  refine Zn hfr hS rfl rfl rfl (.bs (by first | exact hg | exact ZjN ⟨by omega,by omega⟩))
 have hk:0≤k∧k≤5:=by simp at hc0;omega
 refine wp_skip (Zb (wp_seq ?_))
 obtain ⟨F,hS⟩:=hS.give 101 3 rfl rfl
 obtain ⟨F,hS⟩:=hS.nm [10,3,2,0] [0] rfl rfl
 refine Za hS (qM rfl rfl (qM rfl rfl (qf (ZX (sz:=1) (.mk Tryz.underlying49 (by kernel_rfl)) (by intro x;rfl) .t .t (by omega) (by simp;omega)) r2 qz (qf (oR false 1 .t) r1 qz (qN rfl rfl qZ))))) hB [2] [0] rfl rfl fun a w F hS=>Zb (wp_ret ?_)
 refine Zn hfr hS rfl rfl rfl (.bs (by first | exact hg | exact ZjN ⟨by omega,by omega⟩))
theorem Za5 (n:Int):FnP Tryz.prog 170 [.int .i64 n] (.bool (Zfs n)):=by
 refine FnP.mk Tryz.func170 rfl Tryz.ntmps170 rfl ?_
 intro B a w F hB hfr hS
 refine wp_seq ?_
 refine Za hS qB hB [2,0] [0] rfl rfl fun a w F hS=>Zb (wp_seq ?_)
 refine Za hS (qM rfl rfl (qf (ZbF .t qi) r1 qz (qM rfl rfl (qm rfl rfl rfl rfl (qk rfl (fun h=>Zle (.w h) qi) r2 qz (qf (ZA .t .t) r2 qz (qN rfl rfl qZ))))))) hB [2] [0] rfl rfl fun a w F hS=>Zb (wp_ret ?_)
 refine Zn hfr hS rfl rfl rfl (.bool rfl)
theorem Zeo (u v:CmdD):FnP Tryz.prog 40 [.agg (rCmd u),.agg (rCmd v)] (.bool (decide (u=v))):=by
 refine FnP.mk Tryz.func40 rfl Tryz.ntmps40 rfl ?_
 intro B a w F hB hfr hS
 refine wp_seq ?_
 refine Zc hS (qx 101 r1 (qx 102 r1 qB)) hB [4,3,2] [102,101,0] (fun _=>rfl) (fun _=>rfl) fun τ a w F hS=>?_
 try dsimp only [RS.sub,SF.sub,CF.sub,csub,Anc.sub,List.map,zCF,rCmd] at hS
 generalize τ 2=v2 at hS
 generalize τ 3=v3 at hS
 refine Zb (wp_seq ?_)
 refine Zbx hS (by kernel_rfl) (nf (oF 0 101 .is) r1 r1 (nf (oL false 1 101 .adr) r1 r1 (nf (oF 0 102 .is) r1 r1 (nf (oL false 1 102 .adr) r1 r1 (nf (o_eql .t .t) r2 trivial (nM rfl rfl (nk rfl (fun h=>oF 1 101 .is) r2 r1 (nk rfl (fun h=>oL true 3 101 (.w h .adr)) r2 r1 (nk rfl (fun h=>oF 1 102 .is) r2 r1 (nk rfl (fun h=>oL true 3 102 (.w h .adr)) r2 r1 (nk rfl (fun h=>oP (Zhg u.tx v.tx) Tryz.func41 (Args.two (.pagg (.w h)) (.pagg (.w h)))) r3 trivial (nf (ZA .t .t) r2 trivial (nM rfl rfl (nk rfl (fun h=>oF 4 101 .is) r2 r1 (nk rfl (fun h=>oL true 2 101 (.w h .adr)) r2 r1 (nk rfl (fun h=>oF 4 102 .is) r2 r1 (nk rfl (fun h=>oL true 2 102 (.w h .adr)) r2 r1 (nk rfl (fun h=>oP (ZeX u.order v.order) Tryz.func42 (Args.two (.pagg (.w h)) (.pagg (.w h)))) r3 trivial (nf (ZA .t .t) r2 trivial (nM rfl rfl (nk rfl (fun h=>oF 6 101 .is) r2 r1 (nk rfl (fun h=>oL false 1 101 (.w h .adr)) r2 r1 (nk rfl (fun h=>oF 6 102 .is) r2 r1 (nk rfl (fun h=>oL false 1 102 (.w h .adr)) r2 r1 (nn [28,26,24,4,3,2] [102,101,0] rfl rfl (nk rfl (fun h=>o_eql (.w h) (.w h)) r3 trivial (nf (ZA .t .t) r2 trivial (nM rfl rfl (nk rfl (fun h=>oF 7 101 .is) r2 r1 (nk rfl (fun h=>oL false 1 101 (.w h .adr)) r2 r1 (nk rfl (fun h=>oF 7 102 .is) r2 r1 (nk rfl (fun h=>oL false 1 102 (.w h .adr)) r2 r1 (nk rfl (fun h=>o_eql (.w h) (.w h)) r3 trivial (nf (ZA .t .t) r2 trivial (nM rfl rfl (nk rfl (fun h=>oF 8 101 .is) r2 r1 (nk rfl (fun h=>oL false 1 101 (.w h .adr)) r2 r1 (nk rfl (fun h=>oF 8 102 .is) r2 r1 (nk rfl (fun h=>oL false 1 102 (.w h .adr)) r2 r1 (nk rfl (fun h=>o_eql (.w h) (.w h)) r3 trivial (nf (ZA .t .t) r2 trivial (nM rfl rfl (nk rfl (fun h=>oF 9 101 .is) r2 r1 (nk rfl (fun h=>oL false 1 101 (.w h .adr)) r2 r1 (nk rfl (fun h=>oF 9 102 .is) r2 r1 (nk rfl (fun h=>oL false 1 102 (.w h .adr)) r2 r1 (nk rfl (fun h=>o_eql (.w h) (.w h)) r3 trivial (nf (ZA .t .t) r2 trivial (nN rfl rfl ZW.nil))))))))))))))))))))))))))))))))))))))))))))))))) (by kernel_rfl) (by rw [hB];kernel_rfl) fun a w F hS=>?_
 obtain ⟨F,hS⟩:=hS.nm [4] [102,101,0] rfl rfl
 try dsimp only [List.map,xD,xE,xT,xU,ldSF,rCmd] at hS
 refine Zb (wp_ret ?_)
 refine Zn hfr hS rfl rfl rfl (.bool (Znd u v))
theorem ZpI (c:CmdD):FnP Tryz.prog 169 [.agg (rCmd c)] (.agg (rCmd (usedR c))):=by
 refine FnP.mk Tryz.func169 rfl Tryz.ntmps169 rfl ?_
 intro B a w F hB hfr hS
 refine wp_seq ?_
 refine Zc hS (qx 101 r1 (qf (oH [.int .i64 0,.int .i64 0,.bool false,.slice none 0 0,.int .i64 0,.slice none 0 0,.int .i64 0,.int .i64 0,.int .i64 0,.int .i64 0] 102) trivial qz qZ)) hB [2,1] [102,101,0] (fun _=>rfl) (fun _=>rfl) fun τ a w F hS=>?_
 try dsimp only [RS.sub,SF.sub,CF.sub,csub,Anc.sub,List.map,zCF,rCmd] at hS
 generalize τ 1=v1 at hS
 generalize τ 2=v2 at hS
 refine Zb (wp_seq ?_)
 refine Zc hS (qg 0 101 r1 r1 (qa 101 r1 r1 (qf (oB [(0,.tmp 5)] [.int .i64 0,.int .i64 0,.bool false,.slice none 0 0,.int .i64 0,.slice none 0 0,.int .i64 0,.int .i64 0,.int .i64 0,.int .i64 0] [(0,1),(1,3),(4,2),(6,1),(7,1),(8,1),(9,1)] (.one rfl .t one_int (by kernel_rfl) .nil)) r1 qz (qf (oH [.int .i64 0,.int .i64 0,.bool false,.slice none 0 0,.int .i64 0,.slice none 0 0,.int .i64 0,.int .i64 0,.int .i64 0,.int .i64 0] 103) trivial qz (qS 10 103 r2 r1 qZ))))) hB [3,2,1] [103,102,101,0] (fun _=>rfl) (fun _=>rfl) fun τ a w F hS=>?_
 try dsimp only [RS.sub,SF.sub,CF.sub,csub,Anc.sub,List.map,Zg,xL,xM,Nat.reduceAdd,xD,xE,xT,xU,xC,xN,zCF,ldSF,rCmd] at hS
 generalize τ 3=v3 at hS
 refine Zb (wp_seq (wp_seq ?_))
 refine Za hS (qg 0 101 r1 r1 (qa 101 r1 r1 qZ)) hB [8,3,2,1] [103,102,101,0] rfl rfl fun a w F hS=>Zb (wp_block (wp_seq (wp_seq ?_)))
 refine Za hS (qf (o_eql .t qi) r1 qz (qN rfl rfl qZ)) hB [9,8,3,2,1] [103,102,101,0] rfl rfl fun a w F hS=>Zb ?_
 refine Zd hS rfl (fun hc0=>?_) (fun hc0=>?_)
 ·skip
  have hk:c.kind=1∨c.kind=2:=by first | exact .inl (of_decide_eq_true hc0) | exact .inr (of_decide_eq_true hc0)
  have hr:usedR c = {zeroC c.kind with tx:=c.tx} := by unfold usedR;rw [if_pos hk]
  refine wp_skip (Zb ?_)
  refine Zd hS rfl (fun hc1=>?_) (fun hc1=>?_)
  ·skip
   have hk:c.kind=1∨c.kind=2:=by first | exact .inl (of_decide_eq_true hc1) | exact .inr (of_decide_eq_true hc1)
   have hr:usedR c = {zeroC c.kind with tx:=c.tx} := by unfold usedR;rw [if_pos hk]
   refine Za hS (qg 1 101 r1 r1 (qf (oL true 3 101 .adr) r1 r1 (qg 1 103 r1 r1 (qf (oA 3 103 .adr .t) r2 r1 qZ)))) hB [3,2] [103,102,101,0] rfl rfl fun a w F hS=>Zh (Zb (wp_seq ?_))
   refine Za hS (qe 10 103 r1 r1 (qs 10 102 r2 r1 qZ)) hB [2] [103,102,101,0] rfl rfl fun a w F hS=>Zb (wp_ret ?_)
   refine Zr hfr hS rfl (.cl 102 true 10 rfl rfl .nil) (.one (.aggLe rfl (by rw [hr];exact (by refine ⟨?_,?_,?_,?_,?_,?_,?_,?_,?_,?_,trivial⟩ <;> first | exact PVLe.refl | exact PVLe.nilSl))))
  exact Bool.noConfusion (hc0.symm.trans hc1)
 have hn:=of_decide_eq_false hc0
 refine Za hS (qf (o_eql .t qi) r1 qz (qN rfl rfl qZ)) hB [9,8,3,2,1] [103,102,101,0] rfl rfl fun a w F hS=>Zb ?_
 refine Zd hS rfl (fun hc2=>?_) (fun hc2=>?_)
 ·skip
  have hk:c.kind=1∨c.kind=2:=by first | exact .inl (of_decide_eq_true hc2) | exact .inr (of_decide_eq_true hc2)
  have hr:usedR c = {zeroC c.kind with tx:=c.tx} := by unfold usedR;rw [if_pos hk]
  refine Za hS (qg 1 101 r1 r1 (qf (oL true 3 101 .adr) r1 r1 (qg 1 103 r1 r1 (qf (oA 3 103 .adr .t) r2 r1 qZ)))) hB [3,2] [103,102,101,0] rfl rfl fun a w F hS=>Zh (Zb (wp_seq ?_))
  refine Za hS (qe 10 103 r1 r1 (qs 10 102 r2 r1 qZ)) hB [2] [103,102,101,0] rfl rfl fun a w F hS=>Zb (wp_ret ?_)
  refine Zr hfr hS rfl (.cl 102 true 10 rfl rfl .nil) (.one (.aggLe rfl (by rw [hr];exact (by refine ⟨?_,?_,?_,?_,?_,?_,?_,?_,?_,?_,trivial⟩ <;> first | exact PVLe.refl | exact PVLe.nilSl))))
 have hn:=of_decide_eq_false hc2
 refine wp_seq (wp_seq ?_)
 refine Za hS (qf (o_eql .t qi) r1 qz (qN rfl rfl qZ)) hB [15,8,3,2,1] [103,102,101,0] rfl rfl fun a w F hS=>Zb ?_
 refine Zd hS rfl (fun hc3=>?_) (fun hc3=>?_)
 ·skip
  have hk:c.kind=3∨c.kind=10:=by first | exact .inl (of_decide_eq_true hc3) | exact .inr (of_decide_eq_true hc3)
  have hr:usedR c = {zeroC c.kind with id:=c.id} := by unfold usedR;rw [if_neg (by omega),if_pos hk]
  refine wp_skip (Zb ?_)
  refine Zd hS rfl (fun hc4=>?_) (fun hc4=>?_)
  ·skip
   have hk:c.kind=3∨c.kind=10:=by first | exact .inl (of_decide_eq_true hc4) | exact .inr (of_decide_eq_true hc4)
   have hr:usedR c = {zeroC c.kind with id:=c.id} := by unfold usedR;rw [if_neg (by omega),if_pos hk]
   refine Za hS (qg 7 101 r1 r1 (qa 101 r1 r1 (qg 7 103 r1 r1 (qf (Zaf 103 .adr .t one_int (by kernel_rfl) (by kernel_rfl)) r2 r1 qZ)))) hB [3,2] [103,102,101,0] rfl rfl fun a w F hS=>Zh (Zb (wp_seq ?_))
   refine Za hS (qe 10 103 r1 r1 (qs 10 102 r2 r1 qZ)) hB [2] [103,102,101,0] rfl rfl fun a w F hS=>Zb (wp_ret ?_)
   refine Zr hfr hS rfl (.cl 102 true 10 rfl rfl .nil) (.one (.aggLe rfl (by rw [hr];exact (by refine ⟨?_,?_,?_,?_,?_,?_,?_,?_,?_,?_,trivial⟩ <;> first | exact PVLe.refl | exact PVLe.nilSl))))
  exact Bool.noConfusion (hc3.symm.trans hc4)
 have hn:=of_decide_eq_false hc3
 refine Za hS (qf (o_eql .t qi) r1 qz (qN rfl rfl qZ)) hB [15,8,3,2,1] [103,102,101,0] rfl rfl fun a w F hS=>Zb ?_
 refine Zd hS rfl (fun hc5=>?_) (fun hc5=>?_)
 ·skip
  have hk:c.kind=3∨c.kind=10:=by first | exact .inl (of_decide_eq_true hc5) | exact .inr (of_decide_eq_true hc5)
  have hr:usedR c = {zeroC c.kind with id:=c.id} := by unfold usedR;rw [if_neg (by omega),if_pos hk]
  refine Za hS (qg 7 101 r1 r1 (qa 101 r1 r1 (qg 7 103 r1 r1 (qf (Zaf 103 .adr .t one_int (by kernel_rfl) (by kernel_rfl)) r2 r1 qZ)))) hB [3,2] [103,102,101,0] rfl rfl fun a w F hS=>Zh (Zb (wp_seq ?_))
  refine Za hS (qe 10 103 r1 r1 (qs 10 102 r2 r1 qZ)) hB [2] [103,102,101,0] rfl rfl fun a w F hS=>Zb (wp_ret ?_)
  refine Zr hfr hS rfl (.cl 102 true 10 rfl rfl .nil) (.one (.aggLe rfl (by rw [hr];exact (by refine ⟨?_,?_,?_,?_,?_,?_,?_,?_,?_,?_,trivial⟩ <;> first | exact PVLe.refl | exact PVLe.nilSl))))
 have hn:=of_decide_eq_false hc5
 refine wp_seq ?_
 refine Za hS (qf (o_eql .t qi) r1 qz (qN rfl rfl qZ)) hB [21,8,3,2,1] [103,102,101,0] rfl rfl fun a w F hS=>Zb ?_
 refine Zd hS rfl (fun hc6=>?_) (fun hc6=>?_)
 ·skip
  have hk:=of_decide_eq_true hc6
  have hr:usedR c = {zeroC c.kind with order:=c.order} := by unfold usedR;rw [if_neg (by omega),if_neg (by omega),if_pos hk]
  refine Za hS (qg 4 101 r1 r1 (qf (oL true 2 101 .adr) r1 r1 (qg 4 103 r1 r1 (qf (oA 2 103 .adr .t) r2 r1 qZ)))) hB [3,2] [103,102,101,0] rfl rfl fun a w F hS=>Zh (Zb (wp_seq ?_))
  refine Za hS (qe 10 103 r1 r1 (qs 10 102 r2 r1 qZ)) hB [2] [103,102,101,0] rfl rfl fun a w F hS=>Zb (wp_ret ?_)
  refine Zr hfr hS rfl (.cl 102 true 10 rfl rfl .nil) (.one (.aggLe rfl (by rw [hr];exact (by refine ⟨?_,?_,?_,?_,?_,?_,?_,?_,?_,?_,trivial⟩ <;> first | exact PVLe.refl | exact PVLe.nilSl))))
 have hn:=of_decide_eq_false hc6
 refine wp_seq ?_
 refine Za hS (qf (o_eql .t qi) r1 qz (qN rfl rfl qZ)) hB [26,8,3,2,1] [103,102,101,0] rfl rfl fun a w F hS=>Zb ?_
 refine Zd hS rfl (fun hc7=>?_) (fun hc7=>?_)
 ·skip
  have hk:=of_decide_eq_true hc7
  have hr:usedR c = {zeroC c.kind with key:=c.key,id:=c.id,place:=c.place} := by unfold usedR;rw [if_neg (by omega),if_neg (by omega),if_neg (by omega),if_pos hk]
  refine wp_seq ?_
  refine Za hS (qg 6 101 r1 r1 (qa 101 r1 r1 (qg 6 103 r1 r1 (qf (Zaf 103 .adr .t one_int (by kernel_rfl) (by kernel_rfl)) r2 r1 qZ)))) hB [3,2,1] [103,102,101,0] rfl rfl fun a w F hS=>Zb (wp_seq ?_)
  refine Za hS (qg 7 101 r1 r1 (qa 101 r1 r1 (qg 7 103 r1 r1 (qf (Zaf 103 .adr .t one_int (by kernel_rfl) (by kernel_rfl)) r2 r1 qZ)))) hB [3,2,1] [103,102,101,0] rfl rfl fun a w F hS=>Zb ?_
  refine Za hS (qg 8 101 r1 r1 (qa 101 r1 r1 (qg 8 103 r1 r1 (qf (Zaf 103 .adr .t one_int (by kernel_rfl) (by kernel_rfl)) r2 r1 qZ)))) hB [3,2] [103,102,101,0] rfl rfl fun a w F hS=>Zh (Zb (wp_seq ?_))
  refine Za hS (qe 10 103 r1 r1 (qs 10 102 r2 r1 qZ)) hB [2] [103,102,101,0] rfl rfl fun a w F hS=>Zb (wp_ret ?_)
  refine Zr hfr hS rfl (.cl 102 true 10 rfl rfl .nil) (.one (.aggLe rfl (by rw [hr];exact (by refine ⟨?_,?_,?_,?_,?_,?_,?_,?_,?_,?_,trivial⟩ <;> first | exact PVLe.refl | exact PVLe.nilSl))))
 have hn:=of_decide_eq_false hc7
 refine wp_seq ?_
 refine Za hS (qf (o_eql .t qi) r1 qz (qN rfl rfl qZ)) hB [37,3,2,1] [103,102,101,0] rfl rfl fun a w F hS=>Zb ?_
 refine Zd hS rfl (fun hc8=>?_) (fun hc8=>?_)
 ·skip
  have hk:=of_decide_eq_true hc8
  have hr:usedR c = {zeroC c.kind with phen:=c.phen} := by unfold usedR;rw [if_neg (by omega),if_neg (by omega),if_neg (by omega),if_neg (by omega),if_pos hk]
  refine Za hS (qg 9 101 r1 r1 (qa 101 r1 r1 (qg 9 103 r1 r1 (qf (Zaf 103 .adr .t one_int (by kernel_rfl) (by kernel_rfl)) r2 r1 qZ)))) hB [3,2] [103,102,101,0] rfl rfl fun a w F hS=>Zh (Zb (wp_seq ?_))
  refine Za hS (qe 10 103 r1 r1 (qs 10 102 r2 r1 qZ)) hB [2] [103,102,101,0] rfl rfl fun a w F hS=>Zb (wp_ret ?_)
  refine Zr hfr hS rfl (.cl 102 true 10 rfl rfl .nil) (.one (.aggLe rfl (by rw [hr];exact (by refine ⟨?_,?_,?_,?_,?_,?_,?_,?_,?_,?_,trivial⟩ <;> first | exact PVLe.refl | exact PVLe.nilSl))))
 have hn:=of_decide_eq_false hc8
 have hr:usedR c=zeroC c.kind:=by unfold usedR;rw [if_neg (by omega),if_neg (by omega),if_neg (by omega),if_neg (by omega),if_neg (by omega)]
 refine wp_skip (Zh (Zb (wp_seq ?_)))
 refine Za hS (qe 10 103 r1 r1 (qs 10 102 r2 r1 qZ)) hB [2] [103,102,101,0] rfl rfl fun a w F hS=>Zb (wp_ret ?_)
 refine Zr hfr hS rfl (.cl 102 true 10 rfl rfl .nil) (.one (.aggLe rfl (by rw [hr];exact (by refine ⟨?_,?_,?_,?_,?_,?_,?_,?_,?_,?_,trivial⟩ <;> first | exact PVLe.refl | exact PVLe.nilSl))))
end Go.Proofs.YtjhapicamnijnaaGreat
