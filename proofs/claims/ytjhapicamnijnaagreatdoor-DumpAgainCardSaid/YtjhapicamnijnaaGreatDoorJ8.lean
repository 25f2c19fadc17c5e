/- Texts put together. No condition beyond those that each theorem says. -/
import Derived.Test.YtjhapicamnijnaaGreatDoorJ6
import Derived.Test.YtjhapicamnijnaaGreatDoorJ7
import Derived.Test.YtjhapicamnijnaaGreatDoorJ4
import Derived.Test.YtjhapicamnijnaaGreatDoorJ5
import Derived.Test.YtjhapicamnijnaaGreatDoorJ0
import Derived.Test.YtjhapicamnijnaaGreatDoorJ1
import Derived.Test.YtjhapicamnijnaaGreatDoorJ3
namespace Go.Proofs.YtjhapicamnijnaaGreatDoor
open Go Go.Gm
set_option linter.unusedVariables false
set_option linter.unusedSimpArgs false
set_option maxHeartbeats 4000000
set_option maxRecDepth 8000
theorem ZrJ (l : List OpD) (p : OpD → Bool) (f : FuncId) (fn : Func) (cps : List PV) (hf : Tryz.prog.funcs[f]? = some fn) (hb : fn.body.isSome = true) (hnn : (fn.name == "runtime.NumGoroutine") = false) (hw : ∀ x, FnP Tryz.prog f (.agg (rOp x) :: cps) (.bool (p x))) : FnP Tryz.prog 69 [.sl rOp l, .clos f cps] (.bool (l.any p)) := by
 refine FnP.mk Tryz.func69 rfl Tryz.ntmps69 rfl ?_
 intro B a w F hB hfr hS
 refine wp_seq ?_
 refine Za hS qB hB [4,1,0] [0] rfl rfl fun a w F hS=>Zb (wp_seq ?_)
 refine Za hS (qM rfl rfl (qM rfl rfl (qf (oP (ZnY l p f fn cps hf hb hnn hw) Tryz.func113 (Args.two .t .t)) r2 qz (qf (ZdO .t qi) r1 qz (qN rfl rfl qZ))))) hB [4] [0] rfl rfl fun a w F hS=>Zb (wp_ret ?_)
 refine Zm hfr hS rfl rfl rfl (.bool (by rw [ZiX]))
theorem ZpN (o:OpD):FnP Tryz.prog 70 [.agg (rOp o)] (.bool o.read):=by
 refine FnP.mk Tryz.func70 rfl Tryz.ntmps70 rfl ?_
 intro B a w F hB hfr hS
 refine wp_seq ?_
 refine Zc hS (qx 101 r1 qB) hB [2,1] [101,0] (fun _=>rfl) (fun _=>rfl) fun τ a w F hS=>?_
 try dsimp only [RS.sub,SF.sub,CF.sub,csub,Anc.sub,List.map,zCF,rOp] at hS
 generalize τ 1=v1 at hS
 refine Zb (wp_seq ?_)
 refine Za hS (qg 0 101 r1 r1 (qa 101 r1 r1 (qN rfl rfl qZ))) hB [2] [0] rfl rfl fun a w F hS=>Zb (wp_ret ?_)
 refine Zm hfr hS rfl rfl rfl .refl
theorem Zpf (t:TxD):FnP Tryz.prog 28 [.agg (rTx t)] (.bool (Z6 t)):=by
 refine FnP.mk Tryz.func28 rfl Tryz.ntmps28 rfl ?_
 intro B a w F hB hfr hS
 refine wp_seq ?_
 refine Zc hS (qx 101 r1 qB) hB [2,1] [101,0] (fun _=>rfl) (fun _=>rfl) fun τ a w F hS=>?_
 try dsimp only [RS.sub,SF.sub,CF.sub,csub,Anc.sub,List.map,zCF,Zo,rTx,Zz,ZQ,rInt,rOp] at hS
 generalize τ 1=v1 at hS
 refine Zb (wp_seq ?_)
 refine Za hS (qg 2 101 r1 r1 (qa 101 r1 r1 (qf (oP (ZrJ t.ops (fun o=>o.read) 70 Tryz.f70 [] Tryz.func70 rfl (by kernel_rfl) ZpN) Tryz.func69 (Args.two .t (.conv .f (Ent.fnClos)))) r1 qz (qN rfl rfl qZ)))) hB [2] [101,0] rfl rfl fun a w F hS=>Zb (wp_ret ?_)
 refine Zm hfr hS rfl rfl rfl (.bool rfl)
theorem Zpa (o:OrdD) (ho:o.txs.length≤1000):FnP Tryz.prog 30 [.agg (Zz o)] (.sl rCmd (ZbR o)):=by
 refine FnP.mk Tryz.func30 rfl Tryz.ntmps30 rfl ?_
 intro B a w F hB hfr hS
 have hsh:=Zgc (o.txs.mergeSort leI) o.txs
 refine wp_seq ?_
 refine Zc hS (qx 101 r1 (qC qZ)) hB [2,1] [101,0] (fun _=>rfl) (fun _=>rfl) fun τ a w F hS=>?_
 try dsimp only [RS.sub,SF.sub,CF.sub,csub,Anc.sub,List.map,zCF,Zo,rTx,Zz,ZQ,rInt,rOp,rCmd,ZhU] at hS
 generalize τ 1=v1 at hS
 refine Zb (wp_seq ?_)
 refine Za hS (qC qZ) hB [3,2,1] [101,0] rfl rfl fun a w F hS=>Zb (wp_seq ?_)
 refine Zw hS (qg 1 101 r1 r1 (qa 101 r1 r1 (qf (oP (ZqK o.txs) Tryz.func72 (Args.one .t)) r1 qz (qf (oP (Znp o.txs (by omega)) Tryz.func71 (Args.one .t)) r1 qz (qg 1 101 r1 r1 (qa 101 r1 r1 (qf (oP (Zo9 (o.txs.mergeSort leI) o.txs (by rw [List.length_mergeSort];omega) (by omega)) Tryz.func42 (Args.two .t .t)) r2 qz (qM rfl rfl (qf (o_extract .t rfl) r1 qz (qf (o_extract .t rfl) r1 qz (qN rfl rfl (qN rfl rfl qZ)))))))))))) hB [4,3,2,1] [101,0] rfl rfl fun a w F hS=>?_
 try dsimp only [List.map,xD,xE,xT,xU,ldSF,Zo,rTx,Zz,ZQ,rInt,rOp,rCmd,ZhU] at hS
 refine Zb (wp_seq (wp_seq ?_))
 refine Za hS (qM rfl rfl (qu Tryz.underlying83 r1 (qJ qZ))) hB [20,19,18,3,2,1] [101,0] rfl rfl fun a w F hS=>Zb (wp_block ?_)
 replace hS:=hS.fresh 50 rfl
 replace hS:=hS.turn 50 rfl (Zbh (T:=43) (sz:=10) (R:=rCmd))
 refine Zp (σ:=(Nat)×(Value)×(List CmdD)) [1,2,18,19] [0,101] (fun s=>[(20,.pv (.int .i64 (s.1:Int))),(3,.pv (.is s.2.1))]) (fun s=>[(50,.ob (.val s.2.1) (Zu 43 10 rCmd s.2.2))]) (fun s=>s.1≤(ZaD (o.txs.mergeSort leI) o.txs).1.length∧(s.2.2=((ZaD (o.txs.mergeSort leI) o.txs).1.take s.1).map (Zh8 o.key))) (fun s=>(ZaD (o.txs.mergeSort leI) o.txs).1.length - s.1) ((0),(.slice none 0 0),([])) hS ⟨rfl,rfl,rfl,rfl,rfl,rfl,trivial⟩ ⟨rfl,rfl,rfl,trivial⟩ ⟨Nat.zero_le _,rfl⟩ ?_
 clear hS;intro s a w F hC hS
 obtain ⟨i,v,out⟩:=s
 try dsimp only at hC
 obtain ⟨F,hS⟩:=hS.nm [20,19,18,3,2,1] [101,50,0] rfl rfl
 try dsimp only at hS
 obtain ⟨hi,hq⟩:=hC
 have hol:out.length≤i:=by rw [hq,List.length_map,List.length_take];omega
 refine wp_seq ?_
 refine Za hS (qL r2) hB [21,20,19,18,3,2,1] [101,50,0] rfl rfl fun a w F hS=>Zb (wp_seq ?_)
 refine Zd hS rfl (fun hc0=>?_) (fun hc0=>?_)
 ·skip
  have hil:i<(ZaD (o.txs.mergeSort leI) o.txs).1.length:=by simp at hc0;omega
  have hio:=hil
  refine wp_skip (Zb (wp_seq (wp_block (wp_seq ?_))))
  refine Zc hS (qy 2 Tryz.underlying83 r2 (qf (oR true 2 .t) r1 qz (qf (oH [.int .i64 0,.int .i64 0] 102) trivial qz (qS 2 102 r2 r1 qZ)))) hB [20,19,18,7,3,2,1] [102,101,50,0] (fun _=>rfl) (fun _=>rfl) fun τ a w F hS=>?_
  try dsimp only [RS.sub,SF.sub,CF.sub,csub,Anc.sub,List.map,Zg,xL,xM,Nat.reduceAdd,xD,xE,xT,xU,xC,xN,zCF,ldSF,Zo,rTx,Zz,ZQ,rInt,rOp,rCmd,ZhU] at hS
  generalize τ 7=v7 at hS
  try simp only [Int.toNat_natCast] at hS
  refine Zb ?_
  refine Zc hS (qM rfl rfl (qg 0 101 r1 r1 (qa 101 r1 r1 (qg 0 102 r1 r1 (qa 102 r1 r1 (qg 1 102 r1 r1 (qa 102 r1 r1 (qf (oB [(0,_),(3,.tmp 26),(4,.tmp 28),(5,.tmp 30)] [.int .i64 0,.int .i64 0,.bool false,.slice none 0 0,.int .i64 0,.slice none 0 0,.int .i64 0,.int .i64 0,.int .i64 0,.int .i64 0] [(0,1),(1,3),(4,2),(6,1),(7,1),(8,1),(9,1)] (.one rfl qi one_int (by kernel_rfl) (.one rfl .t one_int (by kernel_rfl) (.one rfl .t one_int (by kernel_rfl) (.one rfl .t one_int (by kernel_rfl) .nil))))) r3 qz (qf (Zk (sz:=10) (zs:=[.int .i64 0,.int .i64 0,.bool false,.slice none 0 0,.int .i64 0,.slice none 0 0,.int .i64 0,.int .i64 0,.int .i64 0,.int .i64 0]) (r:=[(0,.tmp 31)]) (l:=[_,_,_,_,_,_,_,_,_,_]) Tryz.underlying28 (by kernel_rfl) (by kernel_rfl) (by kernel_rfl) (by kernel_rfl) rfl rfl (.agg rfl .t (by kernel_rfl) (by kernel_rfl) .nil) rfl) r1 qz (qf (o_append (sz:=10) (bs:=112) 50 (.mk' Tryz.underlying28 (by kernel_rfl) (by kernel_rfl)) (by intro x;rfl) .is (.sl (.conv .t (entArr (l:=[.int .i64 5,.int .i64 0,.bool false,.is (.slice none 0 0),.int .i64 0,.is (.slice none 0 0),.int .i64 o.key,.int .i64 (Go.Gm.nth (ZaD (o.txs.mergeSort leI) o.txs).1 i).key,.int .i64 (Go.Gm.nth (ZaD (o.txs.mergeSort leI) o.txs).1 i).val,.int .i64 0]) (R:=rCmd) (l':=[Zh8 o.key (Go.Gm.nth (ZaD (o.txs.mergeSort leI) o.txs).1 i)]) rfl ⟨PVLe.refl,PVLe.refl,PVLe.refl,PVLe.nilSl,PVLe.refl,PVLe.nilSl,PVLe.refl,PVLe.refl,PVLe.refl,PVLe.refl,trivial⟩))) (by simp only [List.length_append,List.length_cons,List.length_nil];omega) (by decide)) ⟨rfl,rfl,trivial⟩ ⟨rfl,trivial⟩ (qN rfl rfl qZ))))))))))) hB [20,19,18,3,2,1] [102,101,50,0] (fun _=>rfl) (fun _=>rfl) fun τ a w F hS=>?_
  try dsimp only [RS.sub,SF.sub,CF.sub,csub,Anc.sub,List.map,Zg,xL,xM,Nat.reduceAdd,xD,xE,xT,xU,xC,xN,zCF,ldSF,Zo,rTx,Zz,ZQ,rInt,rOp,rCmd,ZhU] at hS
  generalize τ 33=v33 at hS
  refine Zh (Zb ?_)
  refine Za hS (qp r1 (qM rfl rfl qZ)) hB [20,19,18,3,2,1] [102,101,50,0] rfl rfl fun a w F hS=>Zb ?_
  replace hS:=hS.ent (i:=20) (s':=.pv (.int .i64 ((i+1:Nat):Int))) rfl (.int (wrap_succ (by omega)))
  obtain ⟨F,hS⟩:=hS.nm [19,18,2,1,3,20] [101,0,50] rfl rfl
  exact ⟨((i+1),_,_),F,⟨by omega,(by rw [Zfe hio,hq])⟩,hS,by omega⟩
 have hil:i=(ZaD (o.txs.mergeSort leI) o.txs).1.length:=by simp at hc0;omega
 refine wp_exit (Zi (Zi (Zl (Zb (wp_seq ?_)))))
 refine Za hS (qM rfl rfl (qN rfl rfl qZ)) hB [2] [101,50,0] rfl rfl fun a w F hS=>Zb (wp_ret ?_)
 obtain ⟨F,hS⟩:=hS.give 50 2 rfl rfl
 refine Zm hfr hS rfl rfl rfl (.sl (by rw [hq,hil,List.take_length];rfl))
theorem Zb6 (g:HistD) (hs:Za0 g):FnP Tryz.prog 8 [.agg (Zo g)] (.sl rCmd (Zv g)):=by
 refine FnP.mk Tryz.func8 rfl Tryz.ntmps8 rfl ?_
 intro B a w F hB hfr hS
 have hst:=hs.1.1
 have hso:=hs.2.1
 refine wp_seq ?_
 refine Zc hS (qx 101 r1 (qC qZ)) hB [2,1] [101,0] (fun _=>rfl) (fun _=>rfl) fun τ a w F hS=>?_
 try dsimp only [RS.sub,SF.sub,CF.sub,csub,Anc.sub,List.map,zCF,Zo,rTx,Zz,ZQ,rInt,rOp,rCmd] at hS
 generalize τ 1=v1 at hS
 refine Zb (wp_seq (wp_seq ?_))
 refine Za hS (qe 2 101 r1 r1 (qf (oP (Zd4 g hs) Tryz.func7 (Args.one (.pagg .t))) r1 qz (qf (o_not .t) r1 qz qZ))) hB [12,2,1] [101,0] rfl rfl fun a w F hS=>Zb ?_
 refine Zd hS rfl (fun hc0=>?_) (fun hc0=>?_)
 ·skip
  have hr:¬ Zx g:=by simpa using hc0
  refine wp_seq ?_
  refine Za hS (qC qZ) hB [2,1] [101,0] rfl rfl fun a w F hS=>Zb (wp_ret (Ze ?_))
  refine Zm hfr hS rfl rfl rfl (.trans .nilSl (.sl (by first | exact (Zgh hr).symm | (rw [Zcj hr,hq,hil,List.take_length]))))
 have hr:Zx g:=by simpa using hc0
 refine wp_skip (Zb (wp_seq ?_))
 refine Za hS (qC qZ) hB [3,2,1] [101,0] rfl rfl fun a w F hS=>Zb (wp_seq (wp_seq ?_))
 refine Za hS (qg 0 101 r1 r1 (qa 101 r1 r1 (qu Tryz.underlying22 r1 (qJ qZ)))) hB [16,15,14,3,2,1] [101,0] rfl rfl fun a w F hS=>Zb (wp_block ?_)
 replace hS:=hS.fresh 50 rfl
 replace hS:=hS.turn 50 rfl (Zbh (T:=43) (sz:=10) (R:=rCmd))
 refine Zp (σ:=(Nat)×(Value)×(List CmdD)) [1,2,14,15] [0,101] (fun s=>[(16,.pv (.int .i64 (s.1:Int))),(3,.pv (.is s.2.1))]) (fun s=>[(50,.ob (.val s.2.1) (Zu 43 10 rCmd s.2.2))]) (fun s=>s.1≤g.txs.length∧(s.2.2=(g.txs.take s.1).map Zc6)) (fun s=>g.txs.length - s.1) ((0),(.slice none 0 0),([])) hS ⟨rfl,rfl,rfl,rfl,rfl,rfl,trivial⟩ ⟨rfl,rfl,rfl,trivial⟩ ⟨Nat.zero_le _,rfl⟩ ?_
 clear hS;intro s a w F hC hS
 obtain ⟨i,v,out⟩:=s
 try dsimp only at hC
 obtain ⟨F,hS⟩:=hS.nm [16,15,14,3,2,1] [101,50,0] rfl rfl
 try dsimp only at hS
 obtain ⟨hi,hq⟩:=hC
 have hol:out.length≤i:=by rw [hq,List.length_map,List.length_take];omega
 refine wp_seq ?_
 refine Za hS (qL r2) hB [17,16,15,14,3,2,1] [101,50,0] rfl rfl fun a w F hS=>Zb (wp_seq ?_)
 refine Zd hS rfl (fun hc1=>?_) (fun hc1=>?_)
 ·skip
  have hil:i<g.txs.length:=by simp at hc1;omega
  have hio:=hil
  have hxo:=hs.1.at hio
  refine wp_skip (Zb (wp_seq (wp_block (wp_seq ?_))))
  refine Zc hS (qy 3 Tryz.underlying22 r2 (qf (oR true 3 .t) r1 qz (qf (oH [.int .i64 0,.bool false,.slice none 0 0] 102) trivial qz (qS 3 102 r2 r1 qZ)))) hB [16,15,14,5,3,2,1] [102,101,50,0] (fun _=>rfl) (fun _=>rfl) fun τ a w F hS=>?_
  try dsimp only [RS.sub,SF.sub,CF.sub,csub,Anc.sub,List.map,Zg,xL,xM,Nat.reduceAdd,xD,xE,xT,xU,xC,xN,zCF,ldSF,Zo,rTx,Zz,ZQ,rInt,rOp,rCmd] at hS
  generalize τ 5=v5 at hS
  try simp only [Int.toNat_natCast] at hS
  refine Zb ?_
  refine Zc hS (qM rfl rfl (qe 3 102 r1 r1 (qf (oP (Zps (Go.Gm.nth g.txs i) (by omega)) Tryz.func27 (Args.one (.pagg .t))) r1 qz (qf (oB [(0,_),(1,.tmp 22)] [.int .i64 0,.int .i64 0,.bool false,.slice none 0 0,.int .i64 0,.slice none 0 0,.int .i64 0,.int .i64 0,.int .i64 0,.int .i64 0] [(0,1),(1,3),(4,2),(6,1),(7,1),(8,1),(9,1)] (.one rfl qi one_int (by kernel_rfl) (.agg rfl (.conv .t .agg) (by kernel_rfl) (by kernel_rfl) .nil))) r1 qz (qf (Zk (sz:=10) (zs:=[.int .i64 0,.int .i64 0,.bool false,.slice none 0 0,.int .i64 0,.slice none 0 0,.int .i64 0,.int .i64 0,.int .i64 0,.int .i64 0]) (r:=[(0,.tmp 23)]) (l:=[_,_,_,_,_,_,_,_,_,_]) Tryz.underlying28 (by kernel_rfl) (by kernel_rfl) (by kernel_rfl) (by kernel_rfl) rfl rfl (.agg rfl .t (by kernel_rfl) (by kernel_rfl) .nil) rfl) r1 qz (qf (o_append (sz:=10) (bs:=112) 50 (.mk' Tryz.underlying28 (by kernel_rfl) (by kernel_rfl)) (by intro x;rfl) .is (.sl (.conv .t (entArr (l:=[.int .i64 1,.int .i64 (bareT (Go.Gm.nth g.txs i)).id,.bool (bareT (Go.Gm.nth g.txs i)).done,.sl rOp (bareT (Go.Gm.nth g.txs i)).ops,.int .i64 0,.is (.slice none 0 0),.int .i64 0,.int .i64 0,.int .i64 0,.int .i64 0]) (R:=rCmd) (l':=[Zc6 (Go.Gm.nth g.txs i)]) rfl ⟨PVLe.refl,PVLe.refl,PVLe.refl,PVLe.refl,PVLe.refl,PVLe.nilSl,PVLe.refl,PVLe.refl,PVLe.refl,PVLe.refl,trivial⟩))) (by simp only [List.length_append,List.length_cons,List.length_nil];omega) (by decide)) ⟨rfl,rfl,trivial⟩ ⟨rfl,trivial⟩ (qN rfl rfl qZ))))))) hB [16,15,14,3,2,1] [102,101,50,0] (fun _=>rfl) (fun _=>rfl) fun τ a w F hS=>?_
  try dsimp only [RS.sub,SF.sub,CF.sub,csub,Anc.sub,List.map,Zg,xL,xM,Nat.reduceAdd,xD,xE,xT,xU,xC,xN,zCF,ldSF,Zo,rTx,Zz,ZQ,rInt,rOp,rCmd] at hS
  generalize τ 25=v25 at hS
  refine Zh (Zb ?_)
  refine Za hS (qp r1 (qM rfl rfl qZ)) hB [16,15,14,3,2,1] [102,101,50,0] rfl rfl fun a w F hS=>Zb ?_
  replace hS:=hS.ent (i:=16) (s':=.pv (.int .i64 ((i+1:Nat):Int))) rfl (.int (wrap_succ (by omega)))
  obtain ⟨F,hS⟩:=hS.nm [15,14,2,1,3,16] [101,0,50] rfl rfl
  exact ⟨((i+1),_,_),F,⟨by omega,(by rw [Zfe hio,hq])⟩,hS,by omega⟩
 have hil:i=g.txs.length:=by simp at hc1;omega
 have hqe:out=(g.txs.map Zc6):=by rw [hq,hil,List.take_length]
 subst hqe
 refine wp_exit (Zi (Zi (Zl (Zb (wp_seq (wp_seq ?_))))))
 refine Za hS (qg 0 101 r1 r1 (qa 101 r1 r1 (qu Tryz.underlying22 r1 (qJ qZ)))) hB [30,29,28,3,2,1] [101,50,0] rfl rfl fun a w F hS=>Zb (wp_block ?_)
 refine Zp (σ:=(Nat)×(Value)×(List CmdD)) [1,2,28,29] [0,101] (fun s=>[(30,.pv (.int .i64 (s.1:Int))),(3,.pv (.is s.2.1))]) (fun s=>[(50,.ob (.val s.2.1) (Zu 43 10 rCmd s.2.2))]) (fun s=>s.1≤g.txs.length∧(s.2.2=(g.txs.map Zc6)++((g.txs.take s.1).filter Z6).map ZcM)) (fun s=>g.txs.length - s.1) ((0),(v),((g.txs.map Zc6))) hS ⟨rfl,rfl,rfl,rfl,rfl,rfl,trivial⟩ ⟨rfl,rfl,rfl,trivial⟩ ⟨Nat.zero_le _,(by simp)⟩ ?_
 clear hS;intro s a w F hC hS
 obtain ⟨i,v,out⟩:=s
 try dsimp only at hC
 obtain ⟨F,hS⟩:=hS.nm [30,29,28,3,2,1] [101,50,0] rfl rfl
 try dsimp only at hS
 obtain ⟨hi,hq⟩:=hC
 have hol:out.length≤1000+i:=by
   rw [hq,List.length_append,List.length_map,List.length_map]
   have h1:=List.length_filter_le Z6 (g.txs.take i)
   rw [List.length_take] at h1
   omega
 have hfs:=fun h b hb=>Zii (f:=Z6) (m:=ZcM) (l:=g.txs) (i:=i) h b hb
 refine wp_seq ?_
 refine Za hS (qL r2) hB [31,30,29,28,3,2,1] [101,50,0] rfl rfl fun a w F hS=>Zb (wp_seq ?_)
 refine Zd hS rfl (fun hc2=>?_) (fun hc2=>?_)
 ·skip
  have hil:i<g.txs.length:=by simp at hc2;omega
  have hio:=hil
  have hxo:=hs.1.at hio
  refine wp_skip (Zb (wp_seq (wp_block (wp_seq ?_))))
  refine Zc hS (qy 3 Tryz.underlying22 r2 (qf (oR true 3 .t) r1 qz (qf (oH [.int .i64 0,.bool false,.slice none 0 0] 103) trivial qz (qS 3 103 r2 r1 qZ)))) hB [30,29,28,7,3,2,1] [103,101,50,0] (fun _=>rfl) (fun _=>rfl) fun τ a w F hS=>?_
  try dsimp only [RS.sub,SF.sub,CF.sub,csub,Anc.sub,List.map,Zg,xL,xM,Nat.reduceAdd,xD,xE,xT,xU,xC,xN,zCF,ldSF,Zo,rTx,Zz,ZQ,rInt,rOp,rCmd] at hS
  generalize τ 7=v7 at hS
  try simp only [Int.toNat_natCast] at hS
  refine Zb (wp_seq ?_)
  refine Za hS (qe 3 103 r1 r1 (qf (oP (Zpf (Go.Gm.nth g.txs i)) Tryz.func28 (Args.one (.pagg .t))) r1 qz qZ)) hB [35,30,29,28,7,3,2,1] [103,101,50,0] rfl rfl fun a w F hS=>Zb ?_
  refine Zd hS rfl (fun hc3=>?_) (fun hc3=>?_)
  ·skip
   have hrd:Z6 (Go.Gm.nth g.txs i)=true:=by simpa [Zfq] using hc3
   have hst9:out ++ [ZcM (Go.Gm.nth g.txs i)] = (g.txs.map Zc6)++((g.txs.take (i+1)).filter Z6).map ZcM:=by rw [hfs hio true hrd,hq,List.append_assoc];rfl
   refine wp_seq ?_
   replace hS:=hS.fresh 104 rfl
   refine Zc hS (qg 2 103 r1 r1 (qa 103 r1 r1 (qf (Zbz 104 (ZhJ (Go.Gm.nth g.txs i).ops (by omega)) Tryz.func29 rfl (by kernel_rfl) (Args.one .t) Za3) r1 r1 (qg 2 103 r1 r1 (qf (Zaz 103 .adr (by kernel_rfl) (by kernel_rfl)) r2 r1 qZ))))) hB [30,29,28,7,3,2,1] [104,103,101,50,0] (fun _=>rfl) (fun _=>rfl) fun τ a w F hS=>?_
   try dsimp only [RS.sub,SF.sub,CF.sub,csub,Anc.sub,List.map,Zg,xL,xM,Nat.reduceAdd,xD,xE,xT,xU,xC,xN,zCF,ldSF,Zo,rTx,Zz,ZQ,rInt,rOp,rCmd] at hS
   generalize τ 38=v38 at hS
   obtain ⟨F,hS⟩:=hS.giveCell 104 103 2 rfl rfl rfl rfl rfl
   try dsimp only [List.set] at hS
   obtain ⟨F,hS⟩:=hS.nm [30,29,28,7,3,2,1] [103,101,50,0] rfl rfl
   refine Zb ?_
   refine Zc hS (qM rfl rfl (qe 3 103 r1 r1 (qf (oB [(0,_),(1,.tmp 41)] [.int .i64 0,.int .i64 0,.bool false,.slice none 0 0,.int .i64 0,.slice none 0 0,.int .i64 0,.int .i64 0,.int .i64 0,.int .i64 0] [(0,1),(1,3),(4,2),(6,1),(7,1),(8,1),(9,1)] (.one rfl qi one_int (by kernel_rfl) (.agg rfl .t (by kernel_rfl) (by kernel_rfl) .nil))) r1 qz (qf (Zk (sz:=10) (zs:=[.int .i64 0,.int .i64 0,.bool false,.slice none 0 0,.int .i64 0,.slice none 0 0,.int .i64 0,.int .i64 0,.int .i64 0,.int .i64 0]) (r:=[(0,.tmp 42)]) (l:=[_,_,_,_,_,_,_,_,_,_]) Tryz.underlying28 (by kernel_rfl) (by kernel_rfl) (by kernel_rfl) (by kernel_rfl) rfl rfl (.agg rfl .t (by kernel_rfl) (by kernel_rfl) .nil) rfl) r1 qz (qf (o_append (sz:=10) (bs:=112) 50 (.mk' Tryz.underlying28 (by kernel_rfl) (by kernel_rfl)) (by intro x;rfl) .is (.sl (.conv .t (entArr (l:=[.int .i64 2,.int .i64 (Go.Gm.nth g.txs i).id,.bool (Go.Gm.nth g.txs i).done,.sl rOp (Go.Gm.nth g.txs i).ops,.int .i64 0,.is (.slice none 0 0),.int .i64 0,.int .i64 0,.int .i64 0,.int .i64 0]) (R:=rCmd) (l':=[ZcM (Go.Gm.nth g.txs i)]) rfl ⟨PVLe.refl,PVLe.refl,PVLe.refl,PVLe.refl,PVLe.refl,PVLe.nilSl,PVLe.refl,PVLe.refl,PVLe.refl,PVLe.refl,trivial⟩))) (by simp only [List.length_append,List.length_cons,List.length_nil];omega) (by decide)) ⟨rfl,rfl,trivial⟩ ⟨rfl,trivial⟩ (qN rfl rfl qZ)))))) hB [30,29,28,3,2,1] [103,101,50,0] (fun _=>rfl) (fun _=>rfl) fun τ a w F hS=>?_
   try dsimp only [RS.sub,SF.sub,CF.sub,csub,Anc.sub,List.map,Zg,xL,xM,Nat.reduceAdd,xD,xE,xT,xU,xC,xN,zCF,ldSF,Zo,rTx,Zz,ZQ,rInt,rOp,rCmd] at hS
   generalize τ 44=v44 at hS
   refine Zh (Zb ?_)
   refine Za hS (qp r1 (qM rfl rfl qZ)) hB [30,29,28,3,2,1] [103,101,50,0] rfl rfl fun a w F hS=>Zb ?_
   replace hS:=hS.ent (i:=30) (s':=.pv (.int .i64 ((i+1:Nat):Int))) rfl (.int (wrap_succ (by omega)))
   obtain ⟨F,hS⟩:=hS.nm [29,28,2,1,3,30] [101,0,50] rfl rfl
   exact ⟨((i+1),_,_),F,⟨by omega,hst9⟩,hS,by omega⟩
  have hrd:Z6 (Go.Gm.nth g.txs i)=false:=by simpa [Zfq] using hc3
  have hst9:out=(g.txs.map Zc6)++((g.txs.take (i+1)).filter Z6).map ZcM:=by rw [hfs hio false hrd,hq];simp
  refine wp_skip (Zh (Zb ?_))
  refine Za hS (qp r1 (qM rfl rfl qZ)) hB [30,29,28,3,2,1] [103,101,50,0] rfl rfl fun a w F hS=>Zb ?_
  replace hS:=hS.ent (i:=30) (s':=.pv (.int .i64 ((i+1:Nat):Int))) rfl (.int (wrap_succ (by omega)))
  obtain ⟨F,hS⟩:=hS.nm [29,28,2,1,3,30] [101,0,50] rfl rfl
  exact ⟨((i+1),_,_),F,⟨by omega,hst9⟩,hS,by omega⟩
 have hil:i=g.txs.length:=by simp at hc2;omega
 have hqe:out=(g.txs.map Zc6)++((g.txs.filter Z6).map ZcM):=by rw [hq,hil,List.take_length]
 subst hqe
 refine wp_exit (Zi (Zi (Zl (Zb (wp_seq (wp_seq ?_))))))
 refine Za hS (qg 1 101 r1 r1 (qa 101 r1 r1 (qu Tryz.underlying23 r1 (qJ qZ)))) hB [49,48,47,3,2] [101,50,0] rfl rfl fun a w F hS=>Zb (wp_block ?_)
 refine Zp (σ:=(Nat)×(Value)×(List CmdD)) [2,47,48] [0,101] (fun s=>[(49,.pv (.int .i64 (s.1:Int))),(3,.pv (.is s.2.1))]) (fun s=>[(50,.ob (.val s.2.1) (Zu 43 10 rCmd s.2.2))]) (fun s=>s.1≤g.orders.length∧(s.2.2=((g.txs.map Zc6)++((g.txs.filter Z6).map ZcM))++(g.orders.take s.1).flatMap ZbR)) (fun s=>g.orders.length - s.1) ((0),(v),((g.txs.map Zc6)++((g.txs.filter Z6).map ZcM))) hS ⟨rfl,rfl,rfl,rfl,rfl,trivial⟩ ⟨rfl,rfl,rfl,trivial⟩ ⟨Nat.zero_le _,(by simp)⟩ ?_
 clear hS;intro s a w F hC hS
 obtain ⟨i,v,out⟩:=s
 try dsimp only at hC
 obtain ⟨F,hS⟩:=hS.nm [49,48,47,3,2] [101,50,0] rfl rfl
 try dsimp only at hS
 obtain ⟨hi,hq⟩:=hC
 have hol:out.length≤2000+1000*i:=by
   rw [hq,List.length_append,List.length_append,List.length_map,List.length_map]
   have h1:=List.length_filter_le Z6 g.txs
   have h2:=ZgC hs.2 i
   omega
 have hml:=fun h=>Nat.le_trans (Ziy (Go.Gm.nth g.orders i)) (hs.2.at (i:=i) h)
 refine wp_seq ?_
 refine Za hS (qL r2) hB [50,49,48,47,3,2] [101,50,0] rfl rfl fun a w F hS=>Zb (wp_seq ?_)
 refine Zd hS rfl (fun hc4=>?_) (fun hc4=>?_)
 ·skip
  have hil:i<g.orders.length:=by simp at hc4;omega
  have hio:=hil
  have hoo:=hs.2.at hio
  refine wp_skip (Zb (wp_seq (wp_block (wp_seq ?_))))
  refine Zc hS (qy 2 Tryz.underlying23 r2 (qf (oR true 2 .t) r1 qz (qf (oH [.int .i64 0,.slice none 0 0] 105) trivial qz (qS 2 105 r2 r1 qZ)))) hB [49,48,47,9,3,2] [105,101,50,0] (fun _=>rfl) (fun _=>rfl) fun τ a w F hS=>?_
  try dsimp only [RS.sub,SF.sub,CF.sub,csub,Anc.sub,List.map,Zg,xL,xM,Nat.reduceAdd,xD,xE,xT,xU,xC,xN,zCF,ldSF,Zo,rTx,Zz,ZQ,rInt,rOp,rCmd] at hS
  generalize τ 9=v9 at hS
  try simp only [Int.toNat_natCast] at hS
  refine Zb ?_
  refine Zc hS (qM rfl rfl (qe 2 105 r1 r1 (qf (oP (Zpa (Go.Gm.nth g.orders i) hoo) Tryz.func30 (Args.one (.pagg .t))) r1 qz (qf (o_append (sz:=10) (bs:=112) 50 (.mk' Tryz.underlying28 (by kernel_rfl) (by kernel_rfl)) (by intro x;rfl) .is (.sl .t) (by have:=hml hio;omega) (by decide)) ⟨rfl,rfl,trivial⟩ ⟨rfl,trivial⟩ (qN rfl rfl qZ))))) hB [49,48,47,3,2] [105,101,50,0] (fun _=>rfl) (fun _=>rfl) fun τ a w F hS=>?_
  try dsimp only [RS.sub,SF.sub,CF.sub,csub,Anc.sub,List.map,xD,xE,xT,xU,xC,xN,ldSF,Zo,rTx,Zz,ZQ,rInt,rOp,rCmd] at hS
  generalize τ 56=v56 at hS
  refine Zh (Zb ?_)
  refine Za hS (qp r1 (qM rfl rfl qZ)) hB [49,48,47,3,2] [105,101,50,0] rfl rfl fun a w F hS=>Zb ?_
  replace hS:=hS.ent (i:=49) (s':=.pv (.int .i64 ((i+1:Nat):Int))) rfl (.int (wrap_succ (by omega)))
  obtain ⟨F,hS⟩:=hS.nm [48,47,2,3,49] [101,0,50] rfl rfl
  exact ⟨((i+1),_,_),F,⟨by omega,(by rw [hq,ZF hio,List.flatMap_append,List.append_assoc];simp)⟩,hS,by omega⟩
 have hil:i=g.orders.length:=by simp at hc4;omega
 refine wp_exit (Zi (Zi (Zl (Zb (wp_seq ?_)))))
 refine Za hS (qM rfl rfl (qN rfl rfl qZ)) hB [2] [101,50,0] rfl rfl fun a w F hS=>Zb (wp_ret ?_)
 obtain ⟨F,hS⟩:=hS.give 50 2 rfl rfl
 refine Zm hfr hS rfl rfl rfl (.sl (by first | exact (Zgh hr).symm | (rw [Zcj hr,hq,hil,List.take_length])))
theorem Zmf (c:CmdD) (hc:c.order.txs.length≤998):FnP Tryz.prog 45 [.agg (rCmd c)] (.bool (Zac c)):=by
 refine FnP.mk Tryz.func45 rfl Tryz.ntmps45 rfl ?_
 intro B a w F hB hfr hS
 have hnl:(ZaH c).length=c.order.txs.length+5:=by unfold ZaH;rw [List.length_append];simp only [List.length_cons,List.length_nil];omega
 refine wp_seq ?_
 refine Zc hS (qx 101 r1 qB) hB [2,1] [101,0] (fun _=>rfl) (fun _=>rfl) fun τ a w F hS=>?_
 try dsimp only [RS.sub,SF.sub,CF.sub,csub,Anc.sub,List.map,zCF] at hS
 generalize τ 1=v1 at hS
 refine Zb (wp_seq (wp_seq ?_))
 refine Zw hS (qg 0 101 r1 r1 (qa 101 r1 r1 (qf (oP (Zlr c.kind) Tryz.func38 (Args.one .t)) r1 qz (qf (Zh2 (ft:=9) (off:=0) (by kernel_rfl) (by kernel_rfl) .t rfl) r1 qz (qf (o_eql_bs Tryz.underlying9 .t (.cs (by kernel_rfl))) r1 qz (qM rfl rfl (qk rfl (fun h=>oL true 10 101 .is) r2 r1 (qk rfl (fun h=>oL true 10 101 .is) r2 r1 (qk rfl (fun h=>oP (Zsx c) Tryz.func84 (Args.one (.pagg (.w h)))) r2 qz (qk rfl (fun h=>oP (Zig c (usedR c)) Tryz.func13 (Args.two (.pagg (.w h)) (.w h))) r3 qz (qk rfl (fun h=>o_not (.w h)) r2 qz (qf (ZaC .t .t) r2 qz (qM rfl rfl (qv 1 101 rfl r2 r1 (qk rfl (fun h=>oF 2 101 (.w h .adr)) r2 r1 (qw 101 rfl r2 r1 (qk rfl (fun h=>ZaI Tryz.underlying36 (.w h)) r2 qz (qk rfl (fun h=>ZaJ (.w h) qi) r2 qz (qf (ZaC .t .t) r2 qz (qM rfl rfl (qv 0 101 rfl r2 r1 (qw 101 rfl r2 r1 (qk rfl (fun h=>o_eql (.w h) qi) r2 qz (qk rfl (fun h=>oM (.w h)) r2 qz (ZE.cons (Zdi.cond2 rfl rfl (fun h=>Za7 (off:=9) 101 .is (by kernel_rfl) (by rfl))) r2 r1 (ZE.cons (Zdi.cond2 rfl rfl (fun h=>Zew (ag:=false) (sz:=1) 101 (.w h .adr) (by kernel_rfl) (by kernel_rfl) (by kernel_rfl) (by rfl))) r2 r1 (ZE.cons (Zdi.cond2 rfl rfl (fun h=>ZnO (ZoE c.phen) Tryz.func49 rfl (by kernel_rfl) (Args.one (.w h)))) r2 qz (ZE.cons (Zdi.cond2 rfl rfl (fun h=>o_eql_bs Tryz.underlying9 (.w h) (.cs (by kernel_rfl)))) r2 qz (qk rfl (fun h=>ZI (.w h) (.wc h)) r3 qz (qf (ZaC .t .t) r2 qz qZ)))))))))))))))))))))))))))))) hB [37,2,1] [101,0] rfl rfl fun a w F hS=>?_
 try dsimp only [List.map,xD,xE,xT,xU,ldSF] at hS
 refine Zb ?_
 refine Zd hS rfl (fun hc0=>?_) (fun hc0=>?_)
 ·skip
  have hg:false=Zac c:=by
    unfold Zac
    have hx:¬ Zmr c:=by
      rintro ⟨g1,g2,g3,g4⟩
      simp only [Bool.or_eq_true,Bool.and_eq_true,decide_eq_true_eq,Bool.not_eq_true',decide_eq_false_iff_not] at hc0
      rcases hc0 with ((hx | hx) | hx) | hx
      · exact g1 hx
      · exact hx g2
      · omega
      · exact g4 hx
    rw [decide_eq_false hx]
    rfl
  refine wp_seq ?_
  refine Za hS qB hB [2,1] [101,0] rfl rfl fun a w F hS=>Zb (wp_ret (Ze ?_))
  refine Zm hfr hS rfl rfl rfl (.bool hg)
 have hhd:Zmr c:=by
   rw [Bool.eq_false_iff] at hc0
   refine ⟨fun g=>hc0 ?_,Classical.byContradiction fun g=>hc0 ?_,Nat.le_of_not_lt fun g=>hc0 ?_,fun g=>hc0 ?_⟩
   · simp only [Bool.or_eq_true,Bool.and_eq_true,decide_eq_true_eq,Bool.not_eq_true',decide_eq_false_iff_not];exact .inl (.inl (.inl g))
   · simp only [Bool.or_eq_true,Bool.and_eq_true,decide_eq_true_eq,Bool.not_eq_true',decide_eq_false_iff_not];exact .inl (.inl (.inr g))
   · simp only [Bool.or_eq_true,Bool.and_eq_true,decide_eq_true_eq,Bool.not_eq_true',decide_eq_false_iff_not];exact .inl (.inr (by omega))
   · simp only [Bool.or_eq_true,Bool.and_eq_true,decide_eq_true_eq,Bool.not_eq_true',decide_eq_false_iff_not];exact .inr g
 have hol:=hhd.2.2.1
 refine wp_skip (Zb (wp_seq ?_))
 refine Zc hS (qg 1 101 r1 r1 (qf (oF 0 101 .adr) r1 r1 (qa 101 r1 r1 (qg 7 101 r1 r1 (qa 101 r1 r1 (qg 4 101 r1 r1 (qf (oF 0 101 .adr) r1 r1 (qa 101 r1 r1 (qg 6 101 r1 r1 (qa 101 r1 r1 (qg 8 101 r1 r1 (qa 101 r1 r1 (qf (ZcU (R:=rInt) (l:=[c.tx.id,c.id,c.order.key,c.key,c.place]) (sz:=1) (zs:=[.int .i64 0]) (r:=[(0,.tmp 40),(1,.tmp 42),(2,.tmp 45),(3,.tmp 47),(4,.tmp 49)]) 102 Tryz.underlying39 (by kernel_rfl) (by kernel_rfl) (by kernel_rfl) (by kernel_rfl) rfl rfl (.one rfl .t one_int (by kernel_rfl) (.one rfl .t one_int (by kernel_rfl) (.one rfl .t one_int (by kernel_rfl) (.one rfl .t one_int (by kernel_rfl) (.one rfl .t one_int (by kernel_rfl) .nil))))) rfl rfl (by intro x;rfl)) r5 qz (qg 4 101 r1 r1 (qf (oF 1 101 .adr) r1 r1 (qa 101 r1 r1 (qf (o_append (sz:=1) (bs:=8) 102 (.mk' Tryz.underlying39 (by kernel_rfl) (by kernel_rfl)) (by intro x;rfl) .same (.sl .t) (by simp only [List.length_cons,List.length_nil];omega) (by decide)) ⟨rfl,rfl,trivial⟩ ⟨rfl,trivial⟩ (qN rfl rfl qZ)))))))))))))))))) hB [3,2,1] [102,101,0] (fun _=>rfl) (fun _=>rfl) fun τ a w F hS=>?_
 try dsimp only [RS.sub,SF.sub,CF.sub,csub,Anc.sub,List.map,Zg,xL,xM,Nat.reduceAdd,xD,xE,xT,xU,xC,xN,zCF,ldSF] at hS
 generalize τ 54=v54 at hS
 refine Zb (wp_seq (wp_seq ?_))
 obtain ⟨F,hS⟩:=hS.give 102 3 rfl rfl
 obtain ⟨F,hS⟩:=hS.nm [3,2,1] [101,0] rfl rfl
 refine Za hS (qM rfl rfl (qu Tryz.underlying39 r1 (qJ qZ))) hB [57,56,55,2,1] [101,0] rfl rfl fun a w F hS=>Zb (wp_block ?_)
 obtain ⟨F,hS⟩:=hS.nm [57,56,55,1] [101,0] rfl rfl
 refine ZC (σ:=Nat) (fun s=>(⟨[(1,.pv (.is v1)),(55,.pv (.sl rInt (ZaH c))),(56,.pv (.int .i64 ((ZaH c).length:Nat))),(57,.pv (.int .i64 (s:Nat)))],[(0,frame B),(101,.pt (.val v1) 43 [.pv (.int .i64 c.kind),.pv (.int .i64 c.tx.id),.pv (.bool c.tx.done),.pv (.sl rOp c.tx.ops),.pv (.int .i64 c.order.key),.pv (.sl rInt c.order.txs),.pv (.int .i64 c.key),.pv (.int .i64 c.id),.pv (.int .i64 c.place),.pv (.int .i64 c.phen)])]⟩:En)) (fun s=>s≤(ZaH c).length ∧ ∀ j,j<s→Zqw (nth (ZaH c) j)=true) (fun s=>(ZaH c).length - s) 0 hS ⟨Nat.zero_le _,fun j hj=>absurd hj (Nat.not_lt_zero _)⟩ ?_
 clear hS;intro i a w F hC hS
 try dsimp only at hC
 try dsimp only at hS
 obtain ⟨hi0,hq⟩:=hC
 refine wp_seq ?_
 refine Za hS (qL r2) hB [58,57,56,55,1] [101,0] rfl rfl fun a w F hS=>Zb (wp_seq ?_)
 refine Zd hS rfl (fun hc1=>?_) (fun hc1=>?_)
 ·skip
  have hi:i<(ZaH c).length:=by have h9:=of_decide_eq_true hc1;omega
  refine wp_skip (Zb (wp_seq (wp_block (wp_seq ?_))))
  refine Za hS (qy 1 Tryz.underlying39 r2 (qf (oR false 1 .t) r1 qz (qN rfl rfl qZ))) hB [57,56,55,5,1] [101,0] rfl rfl fun a w F hS=>Zb (wp_seq ?_)
  refine Za hS (qM rfl rfl (qf (ZbC .t qi) r1 qz (qM rfl rfl (qm rfl rfl rfl rfl (qk rfl (fun h=>ZaJ (.w h) qi) r2 qz (qf (ZaC .t .t) r2 qz qZ)))))) hB [66,57,56,55,1] [101,0] rfl rfl fun a w F hS=>Zb ?_
  refine Zd hS rfl (fun hc2=>?_) (fun hc2=>?_)
  ·skip
   have hg:false=Zac c:=by
     unfold Zac
     have hx:¬ (ZaH c).all Zqw=true:=by
       intro h
       rw [List.all_eq_true] at h
       have h9:=h _ (ZB hi)
       rw [ZhB] at h9
       rw [Int.toNat_natCast] at hc2
       simp only [Bool.or_eq_true,decide_eq_true_eq] at hc2
       omega
     rw [Bool.eq_false_iff.2 hx]
     simp
   refine wp_seq ?_
   refine Za hS qB hB [57,56,55,2,1] [101,0] rfl rfl fun a w F hS=>Zb (wp_ret (Zf (Ze (Ze (Zf (Ze ?_))))))
   refine Zm hfr hS rfl rfl rfl (.bool hg)
  have hqi:Zqw (nth (ZaH c) i)=true:=by
    rw [Int.toNat_natCast] at hc2
    rw [ZhB]
    simp only [Bool.or_eq_false_iff,decide_eq_false_iff_not] at hc2
    omega
  refine wp_skip (Zh (Zb ?_))
  refine Za hS (qp r1 (qM rfl rfl qZ)) hB [57,56,55,1] [101,0] rfl rfl fun a w F hS=>Zb ?_
  replace hS:=hS.ent (i:=57) (s':=.pv (.int .i64 ((i+1:Nat):Int))) rfl (.int (wrap_succ (by omega)))
  obtain ⟨F,hS⟩:=hS.nm [57,56,55,1] [101,0] rfl rfl
  exact ⟨i+1,F,⟨by omega,fun j hj=>(Nat.lt_or_ge j i).elim (hq j) (fun h1=>(show i=j by omega) ▸ hqi)⟩,hS,by omega⟩
 have halln:(ZaH c).all Zqw=true:=by
   rw [List.all_eq_true]
   intro x hx
   obtain ⟨j,hj,rfl⟩:=List.getElem_of_mem hx
   rw [← Zn hj]
   exact hq j (by have h9:=of_decide_eq_false hc1;omega)
 refine wp_exit (Zi (Zi (Zl (Zb (wp_seq (wp_seq ?_))))))
 refine Za hS (qg 1 101 r1 r1 (qf (oF 2 101 .adr) r1 r1 (qa 101 r1 r1 (qu Tryz.underlying36 r1 (qJ qZ))))) hB [72,71,70] [101,0] rfl rfl fun a w F hS=>Zb (wp_block ?_)
 obtain ⟨F,hS⟩:=hS.nm [72,71,70] [0] rfl rfl
 refine ZC (σ:=Nat) (fun s=>(⟨[(70,.pv (.sl rOp c.tx.ops)),(71,.pv (.int .i64 (c.tx.ops.length:Nat))),(72,.pv (.int .i64 (s:Nat)))],[(0,frame B)]⟩:En)) (fun s=>s≤c.tx.ops.length ∧ ∀ j,j<s→ZR (nth c.tx.ops j)=true) (fun s=>c.tx.ops.length - s) 0 hS ⟨Nat.zero_le _,fun j hj=>absurd hj (Nat.not_lt_zero _)⟩ ?_
 clear hS;intro k a w F hC hS
 try dsimp only at hC
 try dsimp only at hS
 obtain ⟨hk0,hqo⟩:=hC
 refine wp_seq ?_
 refine Za hS (qL r2) hB [73,72,71,70] [0] rfl rfl fun a w F hS=>Zb (wp_seq ?_)
 refine Zd hS rfl (fun hc3=>?_) (fun hc3=>?_)
 ·skip
  have hi:k<c.tx.ops.length:=by have h9:=of_decide_eq_true hc3;omega
  refine wp_skip (Zb (wp_seq (wp_block (wp_seq ?_))))
  refine Zc hS (qy 4 Tryz.underlying36 r2 (qf (oR true 4 .t) r1 qz (qf (oH [.bool false,.int .i64 0,.int .i64 0,.int .i64 0] 103) trivial qz (qS 4 103 r2 r1 qZ)))) hB [72,71,70,7] [103,0] (fun _=>rfl) (fun _=>rfl) fun τ a w F hS=>?_
  try dsimp only [RS.sub,SF.sub,CF.sub,csub,Anc.sub,List.map,Zg,xL,xM,Nat.reduceAdd,xD,xE,xT,xU,xC,xN,zCF,ldSF] at hS
  generalize τ 7=v7 at hS
  rw [Int.toNat_natCast] at hS
  refine Zb (wp_seq ?_)
  refine Za hS (qe 4 103 r1 r1 (qf (oP (ZdS (nth c.tx.ops k)) Tryz.func58 (Args.one (.pagg .t))) r1 qz (qf (o_neq .t qi) r1 qz qZ))) hB [78,72,71,70] [0] rfl rfl fun a w F hS=>Zb ?_
  refine Zd hS rfl (fun hc4=>?_) (fun hc4=>?_)
  ·skip
   have hg:false=Zac c:=by
     unfold Zac
     have hx:¬ c.tx.ops.all ZR=true:=by
       intro h
       rw [List.all_eq_true] at h
       have h9:=h _ (ZB hi)
       rw [Ze0.2 h9] at hc4
       simp at hc4
     rw [Bool.eq_false_iff.2 hx]
     simp
   refine wp_seq ?_
   refine Za hS qB hB [72,71,70,2] [0] rfl rfl fun a w F hS=>Zb (wp_ret (Zf (Ze (Ze (Zf (Ze ?_))))))
   refine Zm hfr hS rfl rfl rfl (.bool hg)
  have hqi:ZR (nth c.tx.ops k)=true:=Ze0.1 (by simpa using hc4)
  refine wp_skip (Zh (Zb ?_))
  refine Za hS (qp r1 (qM rfl rfl qZ)) hB [72,71,70] [0] rfl rfl fun a w F hS=>Zb ?_
  replace hS:=hS.ent (i:=72) (s':=.pv (.int .i64 ((k+1:Nat):Int))) rfl (.int (wrap_succ (by omega)))
  obtain ⟨F,hS⟩:=hS.nm [72,71,70] [0] rfl rfl
  exact ⟨k+1,F,⟨by omega,fun j hj=>(Nat.lt_or_ge j k).elim (hqo j) (fun h1=>(show k=j by omega) ▸ hqi)⟩,hS,by omega⟩
 have hallo:c.tx.ops.all ZR=true:=by
   rw [List.all_eq_true]
   intro x hx
   obtain ⟨j,hj,rfl⟩:=List.getElem_of_mem hx
   rw [← Zn hj]
   exact hqo j (by have h9:=of_decide_eq_false hc3;omega)
 have hg:true=Zac c:=by unfold Zac;rw [decide_eq_true hhd,halln,hallo];rfl
 refine wp_exit (Zi (Zi (Zl (Zb (wp_seq ?_)))))
 refine Za hS qB hB [2] [0] rfl rfl fun a w F hS=>Zb (wp_ret ?_)
 refine Zm hfr hS rfl rfl rfl (.bool hg)
theorem Zbn (k:Int):(ZL k).s.length≤4:=by
 rcases Classical.em (1≤k∧k≤12) with h | h
 · rcases kinds h with rfl | rfl | rfl | rfl | rfl | rfl | rfl | rfl | rfl | rfl | rfl | rfl <;> decide +kernel
 · have:(ZL k).s = []:=Classical.byContradiction fun hx=>h (Zd9 hx)
   rw [this];simp
theorem Zpg (p:Int):(Zbe p).length≤3:=by
 rcases Classical.em (Zbe p = []) with h | h
 · rw [h];simp
 · have:=(Zfn h).1
   have:p=1∨p=2∨p=3∨p=4∨p=5:=by omega
   rcases this with rfl | rfl | rfl | rfl | rfl <;> decide +kernel
theorem ZdB (l:List Int) (h:∀ n ∈ l,-9223372036854775808≤n∧n≤9223372036854775807):∀ i,i≤l.length→(Zab l i).length≤22*i
 | 0,_=>by simp [Zab]
 | i+1,hi=>by
   have h1:=ZdB l h i (by omega)
   have h2:=Z5 (h _ (ZB (show i<l.length by omega)))
   rw [Zab,List.length_append,List.length_append]
   split <;> simp only [List.length_cons,List.length_nil] <;> omega
theorem ZhD {c:CmdD} (h:Zac c=true):∀ n ∈ ZaH c,0≤n∧n≤2147483647:=by
 unfold Zac at h
 simp only [Bool.and_eq_true] at h
 intro n hn
 exact ZhB.1 (List.all_eq_true.1 h.2.1 n hn)
theorem Zak {c:CmdD} (h:Zac c=true):Zmr c:=by
 unfold Zac at h
 simp only [Bool.and_eq_true] at h
 exact of_decide_eq_true h.1
theorem ZnV (t:TxD) (h:0≤t.id∧t.id≤2147483647) (h2:t.ops.length≤4095):(ZeP t).length≤500000:=by
 have h1:=Z5 (n:=t.id) (by omega)
 have h3:=ZeV t.ops
 unfold ZeP Zb5
 rw [List.length_append,List.length_append]
 split <;> simp only [List.length_cons,List.length_nil] <;> omega
theorem ZT {c:CmdD} (h:Zac c=true) (hc:c.order.txs.length≤998):(Zay c).length≤1∧sumL (Zay c)≤500000:=by
 have hr:=ZhD h
 have hh:=(Zak h).2.2.1
 have m1:c.tx.id ∈ ZaH c:=by unfold ZaH;simp
 have m2:c.id ∈ ZaH c:=by unfold ZaH;simp
 unfold Zay
 split
 · have:=ZnV c.tx (hr _ m1) hh
   exact ⟨Nat.le_refl _,by simpa [sumL] using this⟩
 · split
   · have:=Z5 (n:=c.id) (by have:=hr _ m2;omega)
     exact ⟨Nat.le_refl _,by simp [sumL];omega⟩
   · split
     · have:=ZdB (c.order.key :: c.order.txs) (fun n hn=>by have:=hr n (by unfold ZaH;simp at hn ⊢;rcases hn with rfl | hn;exact .inr (.inr (.inl rfl));exact .inr (.inr (.inr (.inr (.inr hn)))));omega) _ (Nat.le_refl _)
       refine ⟨Nat.le_refl _,?_⟩
       have e:(c.order.key :: c.order.txs).length=c.order.txs.length+1:=by simp
       simp only [sumL,ZcE,List.map_cons,List.map_nil,List.sum_cons,List.sum_nil]
       omega
     · split
       · have:=ZdB [c.key,c.id,c.place] (fun n hn=>by have:=hr n (by unfold ZaH;simp at hn ⊢;rcases hn with rfl | rfl | rfl;exact .inr (.inr (.inr (.inl rfl)));exact .inr (.inl rfl);exact .inr (.inr (.inr (.inr (.inl rfl)))));omega) _ (Nat.le_refl _)
         have h66:(ZcE [c.key,c.id,c.place]).length≤66:=this
         refine ⟨Nat.le_refl _,?_⟩
         simp only [sumL,List.map_cons,List.map_nil,List.sum_cons,List.sum_nil]
         omega
       · split
         · have:=Zpg c.phen
           exact ⟨Nat.le_refl _,by simp [sumL];omega⟩
         · simp [sumL]
theorem ZmV (c:CmdD) (hc:c.order.txs.length≤998):FnP Tryz.prog 18 [.agg (rCmd c)] (.bs (ZaL c)):=by
 refine FnP.mk Tryz.func18 rfl Tryz.ntmps18 rfl ?_
 intro B a w F hB hfr hS
 refine wp_seq ?_
 refine Zc hS (qx 101 r1 (qf (oN (.cs (by kernel_rfl))) trivial qz qZ)) hB [2,1] [101,0] (fun _=>rfl) (fun _=>rfl) fun τ a w F hS=>?_
 try dsimp only [RS.sub,SF.sub,CF.sub,csub,Anc.sub,List.map,zCF] at hS
 generalize τ 1=v1 at hS
 refine Zb (wp_seq (wp_seq ?_))
 refine Za hS (qe 10 101 r1 r1 (qf (oP (Zmf c hc) Tryz.func45 (Args.one (.pagg .t))) r1 qz (qf (o_not .t) r1 qz qZ))) hB [6,2,1] [101,0] rfl rfl fun a w F hS=>Zb ?_
 refine Zd hS rfl (fun hc0=>?_) (fun hc0=>?_)
 ·skip
  have hg:([]:List UInt8)=ZaL c:=by unfold ZaL;rw [if_pos (by simpa using hc0)]
  refine wp_seq ?_
  refine Za hS (qf (oN (.cs (by kernel_rfl))) trivial qz qZ) hB [2,1] [101,0] rfl rfl fun a w F hS=>Zb (wp_ret (Ze ?_))
  refine Zm hfr hS rfl rfl rfl (.bs (by first | exact hg | (unfold ZaL;rw [if_neg (by rw [hrc];decide)])))
 have hrc:Zac c=true:=by simpa using hc0
 refine wp_skip (Zb (wp_seq ?_))
 refine Zc hS (qg 0 101 r1 r1 (qa 101 r1 r1 (qf (oP (Zlr c.kind) Tryz.func38 (Args.one .t)) r1 qz (qf (Zh2 (ft:=9) (off:=0) (by kernel_rfl) (by kernel_rfl) .t rfl) r1 qz (qf (ZcU (R:=rS) (l:=[(ZL c.kind).s]) (sz:=1) (zs:=[.string ⟨#[]⟩]) (r:=[(0,.tmp 10)]) 102 Tryz.underlying34 (by kernel_rfl) (by kernel_rfl) (by kernel_rfl) (by kernel_rfl) rfl rfl (.one rfl .t one_str (by kernel_rfl) .nil) rfl rfl (by intro x;rfl)) r1 qz (qN rfl rfl qZ)))))) hB [3,2,1] [102,101,0] (fun _=>rfl) (fun _=>rfl) fun τ a w F hS=>?_
 try dsimp only [RS.sub,SF.sub,CF.sub,csub,Anc.sub,List.map,Zg,xL,xM,Nat.reduceAdd,xD,xE,xT,xU,xC,xN,zCF,ldSF] at hS
 generalize τ 11=v11 at hS
 refine Zb (wp_seq (wp_seq ?_))
 refine Za hS (qg 0 101 r1 r1 (qa 101 r1 r1 qZ)) hB [13,3,2,1] [102,101,0] rfl rfl fun a w F hS=>Zb (wp_block (wp_seq (wp_seq ?_)))
 refine Za hS (qf (o_eql .t qi) r1 qz (qN rfl rfl qZ)) hB [14,13,3,2,1] [102,101,0] rfl rfl fun a w F hS=>Zb ?_
 refine Zd hS rfl (fun hc1=>?_) (fun hc1=>?_)
 ·skip
  have hk:c.kind=1∨c.kind=2:=by first | exact .inl (of_decide_eq_true hc1) | exact .inr (of_decide_eq_true hc1)
  have hlist:[(ZL c.kind).s,ZeP c.tx] = (ZL c.kind).s :: Zay c:=by unfold Zay;rw [if_pos hk]
  refine wp_skip (Zb ?_)
  refine Zd hS rfl (fun hc2=>?_) (fun hc2=>?_)
  ·skip
   have hk:c.kind=1∨c.kind=2:=by first | exact .inl (of_decide_eq_true hc2) | exact .inr (of_decide_eq_true hc2)
   have hlist:[(ZL c.kind).s,ZeP c.tx] = (ZL c.kind).s :: Zay c:=by unfold Zay;rw [if_pos hk]
   refine Zc hS (qM rfl rfl (qg 1 101 r1 r1 (qf (oL true 3 101 .adr) r1 r1 (qf (oP (Zkz c.tx (by have:=(Zak hrc).2.2.1;omega)) Tryz.func46 (Args.one (.pagg .t))) r1 qz (qf (Zk (sz:=1) (zs:=[.string ⟨#[]⟩]) (r:=[(0,.tmp 20)]) (l:=[_]) Tryz.underlying34 (by kernel_rfl) (by kernel_rfl) (by kernel_rfl) (by kernel_rfl) rfl rfl (.one rfl .t one_str (by kernel_rfl) .nil) rfl) r1 qz (qf (o_append (sz:=1) (bs:=16) 102 (.mk' Tryz.underlying34 (by kernel_rfl) (by kernel_rfl)) (by intro x;rfl) .is (.arr (l':=[ZeP c.tx]) .t) (by simp only [List.length_cons,List.length_nil];omega) (by decide)) ⟨rfl,rfl,trivial⟩ ⟨rfl,trivial⟩ (qN rfl rfl qZ))))))) hB [3,2] [102,101,0] (fun _=>rfl) (fun _=>rfl) fun τ a w F hS=>?_
   try dsimp only [RS.sub,SF.sub,CF.sub,csub,Anc.sub,List.map,Zg,xL,xM,Nat.reduceAdd,xD,xE,xT,xU,xC,xN,zCF,ldSF] at hS
   generalize τ 22=v22 at hS
   refine Zh (Zb (wp_seq ?_))
   rw [hlist] at hS
   obtain ⟨F,hS⟩:=hS.give 102 3 rfl rfl
   obtain ⟨F,hS⟩:=hS.nm [3,2] [101,0] rfl rfl
   refine Za hS (qM rfl rfl (qf (oP (Zez ((ZL c.kind).s :: Zay c) (by have:=(ZT hrc hc).1;simp only [List.length_cons];omega) (by have h8:=(ZT hrc hc).2;have h9:=Zbn c.kind;unfold sumL at h8 ⊢;rw [List.map_cons,List.sum_cons];omega)) Tryz.func50 (Args.one .t)) r1 qz (qN rfl rfl qZ))) hB [2] [101,0] rfl rfl fun a w F hS=>Zb (wp_ret ?_)
   refine Zm hfr hS rfl rfl rfl (.bs (by first | exact hg | (unfold ZaL;rw [if_neg (by rw [hrc];decide)])))
  exact Bool.noConfusion (hc1.symm.trans hc2)
 have hn:=of_decide_eq_false hc1
 refine Za hS (qf (o_eql .t qi) r1 qz (qN rfl rfl qZ)) hB [14,13,3,2,1] [102,101,0] rfl rfl fun a w F hS=>Zb ?_
 refine Zd hS rfl (fun hc3=>?_) (fun hc3=>?_)
 ·skip
  have hk:c.kind=1∨c.kind=2:=by first | exact .inl (of_decide_eq_true hc3) | exact .inr (of_decide_eq_true hc3)
  have hlist:[(ZL c.kind).s,ZeP c.tx] = (ZL c.kind).s :: Zay c:=by unfold Zay;rw [if_pos hk]
  refine Zc hS (qM rfl rfl (qg 1 101 r1 r1 (qf (oL true 3 101 .adr) r1 r1 (qf (oP (Zkz c.tx (by have:=(Zak hrc).2.2.1;omega)) Tryz.func46 (Args.one (.pagg .t))) r1 qz (qf (Zk (sz:=1) (zs:=[.string ⟨#[]⟩]) (r:=[(0,.tmp 20)]) (l:=[_]) Tryz.underlying34 (by kernel_rfl) (by kernel_rfl) (by kernel_rfl) (by kernel_rfl) rfl rfl (.one rfl .t one_str (by kernel_rfl) .nil) rfl) r1 qz (qf (o_append (sz:=1) (bs:=16) 102 (.mk' Tryz.underlying34 (by kernel_rfl) (by kernel_rfl)) (by intro x;rfl) .is (.arr (l':=[ZeP c.tx]) .t) (by simp only [List.length_cons,List.length_nil];omega) (by decide)) ⟨rfl,rfl,trivial⟩ ⟨rfl,trivial⟩ (qN rfl rfl qZ))))))) hB [3,2] [102,101,0] (fun _=>rfl) (fun _=>rfl) fun τ a w F hS=>?_
  try dsimp only [RS.sub,SF.sub,CF.sub,csub,Anc.sub,List.map,Zg,xL,xM,Nat.reduceAdd,xD,xE,xT,xU,xC,xN,zCF,ldSF] at hS
  generalize τ 22=v22 at hS
  refine Zh (Zb (wp_seq ?_))
  rw [hlist] at hS
  obtain ⟨F,hS⟩:=hS.give 102 3 rfl rfl
  obtain ⟨F,hS⟩:=hS.nm [3,2] [101,0] rfl rfl
  refine Za hS (qM rfl rfl (qf (oP (Zez ((ZL c.kind).s :: Zay c) (by have:=(ZT hrc hc).1;simp only [List.length_cons];omega) (by have h8:=(ZT hrc hc).2;have h9:=Zbn c.kind;unfold sumL at h8 ⊢;rw [List.map_cons,List.sum_cons];omega)) Tryz.func50 (Args.one .t)) r1 qz (qN rfl rfl qZ))) hB [2] [101,0] rfl rfl fun a w F hS=>Zb (wp_ret ?_)
  refine Zm hfr hS rfl rfl rfl (.bs (by first | exact hg | (unfold ZaL;rw [if_neg (by rw [hrc];decide)])))
 have hn:=of_decide_eq_false hc3
 refine wp_seq (wp_seq ?_)
 refine Za hS (qf (o_eql .t qi) r1 qz (qN rfl rfl qZ)) hB [23,13,3,2,1] [102,101,0] rfl rfl fun a w F hS=>Zb ?_
 refine Zd hS rfl (fun hc4=>?_) (fun hc4=>?_)
 ·skip
  have hk:c.kind=3∨c.kind=10:=by first | exact .inl (of_decide_eq_true hc4) | exact .inr (of_decide_eq_true hc4)
  have hlist:[(ZL c.kind).s,textL c.id] = (ZL c.kind).s :: Zay c:=by unfold Zay;rw [if_neg (by omega),if_pos hk]
  refine wp_skip (Zb ?_)
  refine Zd hS rfl (fun hc5=>?_) (fun hc5=>?_)
  ·skip
   have hk:c.kind=3∨c.kind=10:=by first | exact .inl (of_decide_eq_true hc5) | exact .inr (of_decide_eq_true hc5)
   have hlist:[(ZL c.kind).s,textL c.id] = (ZL c.kind).s :: Zay c:=by unfold Zay;rw [if_neg (by omega),if_pos hk]
   refine Zc hS (qM rfl rfl (qg 7 101 r1 r1 (qa 101 r1 r1 (qf (oP (Zc9 c.id) Tryz.func47 (Args.one .t)) r1 qz (qf (Zk (sz:=1) (zs:=[.string ⟨#[]⟩]) (r:=[(0,.tmp 29)]) (l:=[_]) Tryz.underlying34 (by kernel_rfl) (by kernel_rfl) (by kernel_rfl) (by kernel_rfl) rfl rfl (.one rfl .t one_str (by kernel_rfl) .nil) rfl) r1 qz (qf (o_append (sz:=1) (bs:=16) 102 (.mk' Tryz.underlying34 (by kernel_rfl) (by kernel_rfl)) (by intro x;rfl) .is (.arr (l':=[textL c.id]) .t) (by simp only [List.length_cons,List.length_nil];omega) (by decide)) ⟨rfl,rfl,trivial⟩ ⟨rfl,trivial⟩ (qN rfl rfl qZ))))))) hB [3,2] [102,101,0] (fun _=>rfl) (fun _=>rfl) fun τ a w F hS=>?_
   try dsimp only [RS.sub,SF.sub,CF.sub,csub,Anc.sub,List.map,Zg,xL,xM,Nat.reduceAdd,xD,xE,xT,xU,xC,xN,zCF,ldSF] at hS
   generalize τ 31=v31 at hS
   refine Zh (Zb (wp_seq ?_))
   rw [hlist] at hS
   obtain ⟨F,hS⟩:=hS.give 102 3 rfl rfl
   obtain ⟨F,hS⟩:=hS.nm [3,2] [101,0] rfl rfl
   refine Za hS (qM rfl rfl (qf (oP (Zez ((ZL c.kind).s :: Zay c) (by have:=(ZT hrc hc).1;simp only [List.length_cons];omega) (by have h8:=(ZT hrc hc).2;have h9:=Zbn c.kind;unfold sumL at h8 ⊢;rw [List.map_cons,List.sum_cons];omega)) Tryz.func50 (Args.one .t)) r1 qz (qN rfl rfl qZ))) hB [2] [101,0] rfl rfl fun a w F hS=>Zb (wp_ret ?_)
   refine Zm hfr hS rfl rfl rfl (.bs (by first | exact hg | (unfold ZaL;rw [if_neg (by rw [hrc];decide)])))
  exact Bool.noConfusion (hc4.symm.trans hc5)
 have hn:=of_decide_eq_false hc4
 refine Za hS (qf (o_eql .t qi) r1 qz (qN rfl rfl qZ)) hB [23,13,3,2,1] [102,101,0] rfl rfl fun a w F hS=>Zb ?_
 refine Zd hS rfl (fun hc6=>?_) (fun hc6=>?_)
 ·skip
  have hk:c.kind=3∨c.kind=10:=by first | exact .inl (of_decide_eq_true hc6) | exact .inr (of_decide_eq_true hc6)
  have hlist:[(ZL c.kind).s,textL c.id] = (ZL c.kind).s :: Zay c:=by unfold Zay;rw [if_neg (by omega),if_pos hk]
  refine Zc hS (qM rfl rfl (qg 7 101 r1 r1 (qa 101 r1 r1 (qf (oP (Zc9 c.id) Tryz.func47 (Args.one .t)) r1 qz (qf (Zk (sz:=1) (zs:=[.string ⟨#[]⟩]) (r:=[(0,.tmp 29)]) (l:=[_]) Tryz.underlying34 (by kernel_rfl) (by kernel_rfl) (by kernel_rfl) (by kernel_rfl) rfl rfl (.one rfl .t one_str (by kernel_rfl) .nil) rfl) r1 qz (qf (o_append (sz:=1) (bs:=16) 102 (.mk' Tryz.underlying34 (by kernel_rfl) (by kernel_rfl)) (by intro x;rfl) .is (.arr (l':=[textL c.id]) .t) (by simp only [List.length_cons,List.length_nil];omega) (by decide)) ⟨rfl,rfl,trivial⟩ ⟨rfl,trivial⟩ (qN rfl rfl qZ))))))) hB [3,2] [102,101,0] (fun _=>rfl) (fun _=>rfl) fun τ a w F hS=>?_
  try dsimp only [RS.sub,SF.sub,CF.sub,csub,Anc.sub,List.map,Zg,xL,xM,Nat.reduceAdd,xD,xE,xT,xU,xC,xN,zCF,ldSF] at hS
  generalize τ 31=v31 at hS
  refine Zh (Zb (wp_seq ?_))
  rw [hlist] at hS
  obtain ⟨F,hS⟩:=hS.give 102 3 rfl rfl
  obtain ⟨F,hS⟩:=hS.nm [3,2] [101,0] rfl rfl
  refine Za hS (qM rfl rfl (qf (oP (Zez ((ZL c.kind).s :: Zay c) (by have:=(ZT hrc hc).1;simp only [List.length_cons];omega) (by have h8:=(ZT hrc hc).2;have h9:=Zbn c.kind;unfold sumL at h8 ⊢;rw [List.map_cons,List.sum_cons];omega)) Tryz.func50 (Args.one .t)) r1 qz (qN rfl rfl qZ))) hB [2] [101,0] rfl rfl fun a w F hS=>Zb (wp_ret ?_)
  refine Zm hfr hS rfl rfl rfl (.bs (by first | exact hg | (unfold ZaL;rw [if_neg (by rw [hrc];decide)])))
 have hn:=of_decide_eq_false hc6
 refine wp_seq ?_
 refine Za hS (qf (o_eql .t qi) r1 qz (qN rfl rfl qZ)) hB [32,13,3,2,1] [102,101,0] rfl rfl fun a w F hS=>Zb ?_
 refine Zd hS rfl (fun hc7=>?_) (fun hc7=>?_)
 ·skip
  have hk:=of_decide_eq_true hc7
  have hlist:[(ZL c.kind).s,ZcE (c.order.key :: c.order.txs)] = (ZL c.kind).s :: Zay c:=by unfold Zay;rw [if_neg (by omega),if_neg (by omega),if_pos hk]
  refine Zc hS (qM rfl rfl (qg 4 101 r1 r1 (qf (oF 0 101 .adr) r1 r1 (qa 101 r1 r1 (qf (ZcU (R:=rInt) (l:=[c.order.key]) (sz:=1) (zs:=[.int .i64 0]) (r:=[(0,.tmp 37)]) 103 Tryz.underlying39 (by kernel_rfl) (by kernel_rfl) (by kernel_rfl) (by kernel_rfl) rfl rfl (.one rfl .t one_int (by kernel_rfl) .nil) rfl rfl (by intro x;rfl)) r1 qz (qg 4 101 r1 r1 (qf (oF 1 101 .adr) r1 r1 (qa 101 r1 r1 (qf (o_append (sz:=1) (bs:=8) 103 (.mk' Tryz.underlying39 (by kernel_rfl) (by kernel_rfl)) (by intro x;rfl) .same (.sl .t) (by simp only [List.length_cons,List.length_nil];omega) (by decide)) ⟨rfl,rfl,trivial⟩ ⟨rfl,trivial⟩ (qf (o_lendRow 103 (words_c (c.order.key :: c.order.txs) (by simp;omega)) (fun _ _ _ _ _ h=>h) Tryz.func48 rfl (by kernel_rfl) .same) r1 r1 (qf (Zk (sz:=1) (zs:=[.string ⟨#[]⟩]) (r:=[(0,.tmp 43)]) (l:=[_]) Tryz.underlying34 (by kernel_rfl) (by kernel_rfl) (by kernel_rfl) (by kernel_rfl) rfl rfl (.one rfl .t one_str (by kernel_rfl) .nil) rfl) r1 qz (qf (o_append (sz:=1) (bs:=16) 102 (.mk' Tryz.underlying34 (by kernel_rfl) (by kernel_rfl)) (by intro x;rfl) .is (.arr (l':=[ZcE (c.order.key :: c.order.txs)]) .t) (by simp only [List.length_cons,List.length_nil];omega) (by decide)) ⟨rfl,rfl,trivial⟩ ⟨rfl,trivial⟩ (qN rfl rfl qZ))))))))))))) hB [3,2] [103,102,101,0] (fun _=>rfl) (fun _=>rfl) fun τ a w F hS=>?_
  try dsimp only [RS.sub,SF.sub,CF.sub,csub,Anc.sub,List.map,Zg,xL,xM,Nat.reduceAdd,xD,xE,xT,xU,xC,xN,zCF,ldSF] at hS
  generalize τ 45=v45 at hS
  generalize τ 42=v42 at hS
  refine Zh (Zb (wp_seq ?_))
  rw [hlist] at hS
  obtain ⟨F,hS⟩:=hS.give 102 3 rfl rfl
  obtain ⟨F,hS⟩:=hS.nm [3,2] [103,101,0] rfl rfl
  refine Za hS (qM rfl rfl (qf (oP (Zez ((ZL c.kind).s :: Zay c) (by have:=(ZT hrc hc).1;simp only [List.length_cons];omega) (by have h8:=(ZT hrc hc).2;have h9:=Zbn c.kind;unfold sumL at h8 ⊢;rw [List.map_cons,List.sum_cons];omega)) Tryz.func50 (Args.one .t)) r1 qz (qN rfl rfl qZ))) hB [2] [103,101,0] rfl rfl fun a w F hS=>Zb (wp_ret ?_)
  refine Zm hfr hS rfl rfl rfl (.bs (by first | exact hg | (unfold ZaL;rw [if_neg (by rw [hrc];decide)])))
 have hn:=of_decide_eq_false hc7
 refine wp_seq ?_
 refine Za hS (qf (o_eql .t qi) r1 qz (qN rfl rfl qZ)) hB [46,13,3,2,1] [102,101,0] rfl rfl fun a w F hS=>Zb ?_
 refine Zd hS rfl (fun hc8=>?_) (fun hc8=>?_)
 ·skip
  have hk:=of_decide_eq_true hc8
  have hlist:[(ZL c.kind).s,ZcE [c.key,c.id,c.place]] = (ZL c.kind).s :: Zay c:=by unfold Zay;rw [if_neg (by omega),if_neg (by omega),if_neg (by omega),if_pos hk]
  refine Zc hS (qM rfl rfl (qg 6 101 r1 r1 (qa 101 r1 r1 (qg 7 101 r1 r1 (qa 101 r1 r1 (qg 8 101 r1 r1 (qa 101 r1 r1 (qf (Zk (sz:=1) (zs:=[.int .i64 0]) (r:=[(0,.tmp 50),(1,.tmp 52),(2,.tmp 54)]) (l:=[_,_,_]) Tryz.underlying39 (by kernel_rfl) (by kernel_rfl) (by kernel_rfl) (by kernel_rfl) rfl rfl (.one rfl .t one_int (by kernel_rfl) (.one rfl .t one_int (by kernel_rfl) (.one rfl .t one_int (by kernel_rfl) .nil))) rfl) r3 qz (qf (oP (words_c [c.key,c.id,c.place] (by simp)) Tryz.func48 (Args.one (.conv .t (Ent.arrSl (R:=rInt) (l:=[c.key,c.id,c.place]) rfl)))) r1 qz (qf (Zk (sz:=1) (zs:=[.string ⟨#[]⟩]) (r:=[(0,.tmp 56)]) (l:=[_]) Tryz.underlying34 (by kernel_rfl) (by kernel_rfl) (by kernel_rfl) (by kernel_rfl) rfl rfl (.one rfl .t one_str (by kernel_rfl) .nil) rfl) r1 qz (qf (o_append (sz:=1) (bs:=16) 102 (.mk' Tryz.underlying34 (by kernel_rfl) (by kernel_rfl)) (by intro x;rfl) .is (.arr (l':=[ZcE [c.key,c.id,c.place]]) .t) (by simp only [List.length_cons,List.length_nil];omega) (by decide)) ⟨rfl,rfl,trivial⟩ ⟨rfl,trivial⟩ (qN rfl rfl qZ)))))))))))) hB [3,2] [102,101,0] (fun _=>rfl) (fun _=>rfl) fun τ a w F hS=>?_
  try dsimp only [RS.sub,SF.sub,CF.sub,csub,Anc.sub,List.map,Zg,xL,xM,Nat.reduceAdd,xD,xE,xT,xU,xC,xN,zCF,ldSF] at hS
  generalize τ 58=v58 at hS
  refine Zh (Zb (wp_seq ?_))
  rw [hlist] at hS
  obtain ⟨F,hS⟩:=hS.give 102 3 rfl rfl
  obtain ⟨F,hS⟩:=hS.nm [3,2] [101,0] rfl rfl
  refine Za hS (qM rfl rfl (qf (oP (Zez ((ZL c.kind).s :: Zay c) (by have:=(ZT hrc hc).1;simp only [List.length_cons];omega) (by have h8:=(ZT hrc hc).2;have h9:=Zbn c.kind;unfold sumL at h8 ⊢;rw [List.map_cons,List.sum_cons];omega)) Tryz.func50 (Args.one .t)) r1 qz (qN rfl rfl qZ))) hB [2] [101,0] rfl rfl fun a w F hS=>Zb (wp_ret ?_)
  refine Zm hfr hS rfl rfl rfl (.bs (by first | exact hg | (unfold ZaL;rw [if_neg (by rw [hrc];decide)])))
 have hn:=of_decide_eq_false hc8
 refine wp_seq ?_
 refine Za hS (qf (o_eql .t qi) r1 qz (qN rfl rfl qZ)) hB [59,3,2,1] [102,101,0] rfl rfl fun a w F hS=>Zb ?_
 refine Zd hS rfl (fun hc9=>?_) (fun hc9=>?_)
 ·skip
  have hk:=of_decide_eq_true hc9
  have hlist:[(ZL c.kind).s,Zbe c.phen] = (ZL c.kind).s :: Zay c:=by unfold Zay;rw [if_neg (by omega),if_neg (by omega),if_neg (by omega),if_neg (by omega),if_pos hk]
  refine Zc hS (qM rfl rfl (qg 9 101 r1 r1 (qa 101 r1 r1 (qf (oP (ZoE c.phen) Tryz.func49 (Args.one .t)) r1 qz (qf (Zk (sz:=1) (zs:=[.string ⟨#[]⟩]) (r:=[(0,.tmp 64)]) (l:=[_]) Tryz.underlying34 (by kernel_rfl) (by kernel_rfl) (by kernel_rfl) (by kernel_rfl) rfl rfl (.one rfl .t one_str (by kernel_rfl) .nil) rfl) r1 qz (qf (o_append (sz:=1) (bs:=16) 102 (.mk' Tryz.underlying34 (by kernel_rfl) (by kernel_rfl)) (by intro x;rfl) .is (.arr (l':=[Zbe c.phen]) .t) (by simp only [List.length_cons,List.length_nil];omega) (by decide)) ⟨rfl,rfl,trivial⟩ ⟨rfl,trivial⟩ (qN rfl rfl qZ))))))) hB [3,2] [102,101,0] (fun _=>rfl) (fun _=>rfl) fun τ a w F hS=>?_
  try dsimp only [RS.sub,SF.sub,CF.sub,csub,Anc.sub,List.map,Zg,xL,xM,Nat.reduceAdd,xD,xE,xT,xU,xC,xN,zCF,ldSF] at hS
  generalize τ 66=v66 at hS
  refine Zh (Zb (wp_seq ?_))
  rw [hlist] at hS
  obtain ⟨F,hS⟩:=hS.give 102 3 rfl rfl
  obtain ⟨F,hS⟩:=hS.nm [3,2] [101,0] rfl rfl
  refine Za hS (qM rfl rfl (qf (oP (Zez ((ZL c.kind).s :: Zay c) (by have:=(ZT hrc hc).1;simp only [List.length_cons];omega) (by have h8:=(ZT hrc hc).2;have h9:=Zbn c.kind;unfold sumL at h8 ⊢;rw [List.map_cons,List.sum_cons];omega)) Tryz.func50 (Args.one .t)) r1 qz (qN rfl rfl qZ))) hB [2] [101,0] rfl rfl fun a w F hS=>Zb (wp_ret ?_)
  refine Zm hfr hS rfl rfl rfl (.bs (by first | exact hg | (unfold ZaL;rw [if_neg (by rw [hrc];decide)])))
 have hn:=of_decide_eq_false hc9
 have hlist:[(ZL c.kind).s] = (ZL c.kind).s :: Zay c:=by unfold Zay;rw [if_neg (by omega),if_neg (by omega),if_neg (by omega),if_neg (by omega),if_neg (by omega)]
 refine wp_skip (Zh (Zb (wp_seq ?_)))
 rw [hlist] at hS
 obtain ⟨F,hS⟩:=hS.give 102 3 rfl rfl
 obtain ⟨F,hS⟩:=hS.nm [59,3,2,1] [101,0] rfl rfl
 refine Za hS (qM rfl rfl (qf (oP (Zez ((ZL c.kind).s :: Zay c) (by have:=(ZT hrc hc).1;simp only [List.length_cons];omega) (by have h8:=(ZT hrc hc).2;have h9:=Zbn c.kind;unfold sumL at h8 ⊢;rw [List.map_cons,List.sum_cons];omega)) Tryz.func50 (Args.one .t)) r1 qz (qN rfl rfl qZ))) hB [2] [101,0] rfl rfl fun a w F hS=>Zb (wp_ret ?_)
 refine Zm hfr hS rfl rfl rfl (.bs (by first | exact hg | (unfold ZaL;rw [if_neg (by rw [hrc];decide)])))
theorem ZeT (g:HistD) (hs:Za0 g):FnP Tryz.prog 11 [.agg (Zo g)] (.sl rS ((Zv g).map ZaL)):=by
 refine FnP.mk Tryz.func11 rfl Tryz.ntmps11 rfl ?_
 intro B a w F hB hfr hS
 have hcl:=Zex hs
 refine wp_seq ?_
 refine Zc hS (qx 101 r1 (qC qZ)) hB [2,1] [101,0] (fun _=>rfl) (fun _=>rfl) fun τ a w F hS=>?_
 try dsimp only [RS.sub,SF.sub,CF.sub,csub,Anc.sub,List.map,zCF,Zo,rTx,Zz,ZQ,rInt,rOp,rCmd,rS] at hS
 generalize τ 1=v1 at hS
 refine Zb (wp_seq ?_)
 refine Za hS (qC qZ) hB [3,2,1] [101,0] rfl rfl fun a w F hS=>Zb (wp_seq (wp_seq ?_))
 refine Za hS (qe 2 101 r1 r1 (qf (oP (Zb6 g hs) Tryz.func8 (Args.one (.pagg .t))) r1 qz (qu Tryz.underlying28 r1 (qJ qZ)))) hB [9,8,7,3,2] [101,0] rfl rfl fun a w F hS=>Zb (wp_block ?_)
 replace hS:=hS.fresh 50 rfl
 replace hS:=hS.turn 50 rfl (Zbh (T:=9) (sz:=1) (R:=rS))
 refine Zp (σ:=(Nat)×(Value)×(List (List UInt8))) [2,7,8] [0,101] (fun s=>[(9,.pv (.int .i64 (s.1:Int))),(3,.pv (.is s.2.1))]) (fun s=>[(50,.ob (.val s.2.1) (Zu 9 1 rS s.2.2))]) (fun s=>s.1≤(Zv g).length∧(s.2.2=((Zv g).take s.1).map ZaL)) (fun s=>(Zv g).length - s.1) ((0),(.slice none 0 0),([])) hS ⟨rfl,rfl,rfl,rfl,rfl,trivial⟩ ⟨rfl,rfl,rfl,trivial⟩ ⟨Nat.zero_le _,rfl⟩ ?_
 clear hS;intro s a w F hC hS
 obtain ⟨i,v,out⟩:=s
 try dsimp only at hC
 obtain ⟨F,hS⟩:=hS.nm [9,8,7,3,2] [101,50,0] rfl rfl
 try dsimp only at hS
 obtain ⟨hi,hq⟩:=hC
 have hol:out.length≤i:=by rw [hq,List.length_map,List.length_take];omega
 refine wp_seq ?_
 refine Za hS (qL r2) hB [10,9,8,7,3,2] [101,50,0] rfl rfl fun a w F hS=>Zb (wp_seq ?_)
 refine Zd hS rfl (fun hc0=>?_) (fun hc0=>?_)
 ·skip
  have hil:i<(Zv g).length:=by simp at hc0;omega
  have hio:=hil
  refine wp_skip (Zb (wp_seq (wp_block (wp_seq ?_))))
  refine Zc hS (qy 10 Tryz.underlying28 r2 (qf (oR true 10 .t) r1 qz (qf (oH [.int .i64 0,.int .i64 0,.bool false,.slice none 0 0,.int .i64 0,.slice none 0 0,.int .i64 0,.int .i64 0,.int .i64 0,.int .i64 0] 102) trivial qz (qS 10 102 r2 r1 qZ)))) hB [9,8,7,5,3,2] [102,101,50,0] (fun _=>rfl) (fun _=>rfl) fun τ a w F hS=>?_
  try dsimp only [RS.sub,SF.sub,CF.sub,csub,Anc.sub,List.map,Zg,xL,xM,Nat.reduceAdd,xD,xE,xT,xU,xC,xN,zCF,ldSF,Zo,rTx,Zz,ZQ,rInt,rOp,rCmd,rS] at hS
  generalize τ 5=v5 at hS
  try simp only [Int.toNat_natCast] at hS
  refine Zb ?_
  refine Zc hS (qM rfl rfl (qe 10 102 r1 r1 (qf (oP (ZmV (Go.Gm.nth (Zv g) i) (by rw [Zgu (ZB hio)];simp)) Tryz.func18 (Args.one (.pagg .t))) r1 qz (qf (Zk (sz:=1) (zs:=[.string ⟨#[]⟩]) (r:=[(0,.tmp 15)]) (l:=[_]) Tryz.underlying34 (by kernel_rfl) (by kernel_rfl) (by kernel_rfl) (by kernel_rfl) rfl rfl (.one rfl .t one_str (by kernel_rfl) .nil) rfl) r1 qz (qf (o_append (sz:=1) (bs:=16) 50 (.mk' Tryz.underlying34 (by kernel_rfl) (by kernel_rfl)) (by intro x;rfl) .is (.arr (l':=[ZaL (Go.Gm.nth (Zv g) i)]) .t) (by simp only [List.length_append,List.length_cons,List.length_nil];omega) (by decide)) ⟨rfl,rfl,trivial⟩ ⟨rfl,trivial⟩ (qN rfl rfl qZ)))))) hB [9,8,7,3,2] [102,101,50,0] (fun _=>rfl) (fun _=>rfl) fun τ a w F hS=>?_
  try dsimp only [RS.sub,SF.sub,CF.sub,csub,Anc.sub,List.map,Zg,xL,xM,Nat.reduceAdd,xD,xE,xT,xU,xC,xN,zCF,ldSF,Zo,rTx,Zz,ZQ,rInt,rOp,rCmd,rS] at hS
  generalize τ 17=v17 at hS
  refine Zh (Zb ?_)
  refine Za hS (qp r1 (qM rfl rfl qZ)) hB [9,8,7,3,2] [102,101,50,0] rfl rfl fun a w F hS=>Zb ?_
  replace hS:=hS.ent (i:=9) (s':=.pv (.int .i64 ((i+1:Nat):Int))) rfl (.int (wrap_succ (by omega)))
  obtain ⟨F,hS⟩:=hS.nm [8,7,2,3,9] [101,0,50] rfl rfl
  exact ⟨((i+1),_,_),F,⟨by omega,(by rw [Zfe hio,hq])⟩,hS,by omega⟩
 have hil:i=(Zv g).length:=by simp at hc0;omega
 refine wp_exit (Zi (Zi (Zl (Zb (wp_seq ?_)))))
 refine Za hS (qM rfl rfl (qN rfl rfl qZ)) hB [2] [101,50,0] rfl rfl fun a w F hS=>Zb (wp_ret ?_)
 obtain ⟨F,hS⟩:=hS.give 50 2 rfl rfl
 refine Zm hfr hS rfl rfl rfl (.sl (by rw [hq,hil,List.take_length]))
theorem Zop (l:List (List UInt8)) (hs:∀ x ∈ l,x.length≤1000000) (hn:l.length≤1000000):FnP Tryz.prog 77 [.sl rS l] (.tup [.sl rInt (numsR l).1,.int .i64 (numsR l).2]):=by
 refine FnP.mk Tryz.func77 rfl Tryz.ntmps77 rfl ?_
 intro B a w F hB hfr hS
 refine wp_seq ?_
 refine Za hS (qC (qI qZ)) hB [3,2,0] [0] rfl rfl fun a w F hS=>Zb (wp_seq ?_)
 refine Za hS (qC qZ) hB [4,3,2,0] [0] rfl rfl fun a w F hS=>Zb (wp_seq (wp_seq ?_))
 refine Za hS (qM rfl rfl (qu Tryz.underlying34 r1 (qJ qZ))) hB [11,10,9,4,3,2] [0] rfl rfl fun a w F hS=>Zb (wp_block ?_)
 replace hS:=hS.fresh 50 rfl
 replace hS:=hS.turn 50 rfl (Zbh (T:=3) (sz:=1) (R:=rInt))
 obtain ⟨F,hS⟩:=hS.nm [11,10,9,4] [50,0] rfl rfl
 refine ZC (σ:=(Nat×Value)) (fun s=>(⟨[(4,.pv (.is s.2)),(9,.pv (.sl rS l)),(10,.pv (.int .i64 (l.length:Nat))),(11,.pv (.int .i64 (s.1:Nat)))],[(0,frame B),(50,.ob (.val s.2) (Zu 3 1 rInt ((Zbk l).take s.1)))]⟩:En)) (fun s=>s.1≤l.length ∧ ∀ j,j<s.1→(readR (nth l j)).2=0) (fun s=>l.length - s.1) (0,.slice none 0 0) hS ⟨Nat.zero_le _,fun j hj=>absurd hj (Nat.not_lt_zero _)⟩ ?_
 clear hS;intro s a w F hC hS
 obtain ⟨i,v⟩:=s
 try dsimp only at hC
 try dsimp only at hS
 obtain ⟨hi0,hz⟩:=hC
 try dsimp only at hi0 hz
 refine wp_seq ?_
 refine Za hS (qL r2) hB [12,11,10,9,4] [50,0] rfl rfl fun a w F hS=>Zb (wp_seq ?_)
 refine Zd hS rfl (fun hc0=>?_) (fun hc0=>?_)
 ·skip
  have hi:i<l.length:=by have h9:=of_decide_eq_true hc0;omega
  refine wp_skip (Zb (wp_seq (wp_block (wp_seq ?_))))
  refine Za hS (qy 1 Tryz.underlying34 r2 (qf (oR false 1 .t) r1 qz (qN rfl rfl qZ))) hB [11,10,9,6,4] [50,0] rfl rfl fun a w F hS=>?_
  rw [Int.toNat_natCast] at hS
  refine Zb (wp_seq ?_)
  refine Za hS (qM rfl rfl (qf (oP (read_c (nth l i) (by have h9:=hs _ (ZB hi);omega)) Tryz.func118 (Args.one .t)) r1 qz (qM rfl rfl (qf (o_extract .t rfl) r1 qz (qf (o_extract .t rfl) r1 qz (qN rfl rfl (qN rfl rfl qZ))))))) hB [11,10,9,8,7,4] [50,0] rfl rfl fun a w F hS=>Zb (wp_seq (wp_seq ?_))
  refine Za hS (qM rfl rfl (qf (o_neq .t qi) r1 qz qZ)) hB [21,11,10,9,8,7,4] [50,0] rfl rfl fun a w F hS=>Zb ?_
  refine Zd hS rfl (fun hc1=>?_) (fun hc1=>?_)
  ·skip
   have hw:(readR (nth l i)).2≠0:=by simpa using hc1
   have hb:=Zoq hi hz hw
   have hr:numsR l=([],(readR (nth l i)).2):=by unfold numsR;rw [if_pos (by rw [hb];exact hw),hb]
   refine wp_seq ?_
   refine Za hS (qM rfl rfl (qC (qN rfl rfl qZ))) hB [11,10,9,7,4,3,2] [50,0] rfl rfl fun a w F hS=>Zb (wp_ret (Ze (Zf (Ze (Ze (Zf (Ze ?_)))))))
   refine Zr hfr hS rfl (.tmp rfl (.tmp rfl .nil)) (.two (.trans .nilSl (.sl (by rw [hr]))) (.int (by rw [hr])))
  have hzi:(readR (nth l i)).2=0:=by simpa using hc1
  refine wp_skip (Zb ?_)
  refine Zc hS (qM rfl rfl (qM rfl rfl (qf (Zk (sz:=1) (zs:=[.int .i64 0]) (r:=[(0,.tmp 24)]) (l:=[_]) Tryz.underlying39 (by kernel_rfl) (by kernel_rfl) (by kernel_rfl) (by kernel_rfl) rfl rfl (.one rfl .t one_int (by kernel_rfl) .nil) rfl) r1 qz (qf (o_append (sz:=1) (bs:=8) 50 (.mk' Tryz.underlying39 (by kernel_rfl) (by kernel_rfl)) (by intro x;rfl) .is (.arr (l':=[(readR (nth l i)).1]) .t) (by simp only [List.length_cons,List.length_nil,List.length_take];rw [Zhk];omega) (by decide)) ⟨rfl,rfl,trivial⟩ ⟨rfl,trivial⟩ (qN rfl rfl qZ))))) hB [11,10,9,4] [50,0] (fun _=>rfl) (fun _=>rfl) fun τ a w F hS=>?_
  try dsimp only [RS.sub,SF.sub,CF.sub,csub,Anc.sub,List.map,Zg,xL,xM,Nat.reduceAdd,xD,xE,xT,xU,xC,xN,zCF] at hS
  generalize τ 26=v26 at hS
  refine Zh (Zb ?_)
  refine Za hS (qp r1 (qM rfl rfl qZ)) hB [11,10,9,4] [50,0] rfl rfl fun a w F hS=>Zb ?_
  rw [show (Zbk l).take i ++ [(readR (nth l i)).1] = (Zbk l).take (i+1) from ZdI (f:=fun x=>(readR x).1) (by omega)] at hS
  replace hS:=hS.ent (i:=11) (s':=.pv (.int .i64 ((i+1:Nat):Int))) rfl (.int (wrap_succ (by omega)))
  obtain ⟨F,hS⟩:=hS.nm [11,10,9,4] [50,0] rfl rfl
  exact ⟨(i+1,v26),F,⟨by dsimp only;omega,fun j hj=>(Nat.lt_or_ge j i).elim (hz j) (fun h1=>(show i=j by dsimp only at hj;omega) ▸ hzi)⟩,hS,by dsimp only;omega⟩
 have hil:i=l.length:=by have h9:=of_decide_eq_false hc0;omega
 have hbz:=ZeZ (l:=l) (fun j hj=>hz j (by omega))
 have hr:numsR l=(Zbk l,0):=by unfold numsR;rw [if_neg (by rw [hbz];decide)]
 rw [show (Zbk l).take i=Zbk l from List.take_of_length_le (by rw [Zhk];omega)] at hS
 refine wp_exit (Zi (Zi (Zl (Zb (wp_seq ?_)))))
 obtain ⟨F,hS⟩:=hS.give 50 4 rfl rfl
 obtain ⟨F,hS⟩:=hS.nm [12,11,10,9,4] [0] rfl rfl
 refine Za hS (qM rfl rfl (qN rfl rfl (qI qZ))) hB [3,2] [0] rfl rfl fun a w F hS=>Zb (wp_ret ?_)
 refine Zr hfr hS rfl (.tmp rfl (.tmp rfl .nil)) (.two (.sl (by rw [hr])) (.int (by rw [hr])))
theorem ZdL (l:List (List UInt8)) (hs:∀ x ∈ l,x.length≤1000000) (hn:l.length≤1000000) (h2:2≤l.length):FnP Tryz.prog 75 [.sl rS l] (.tup [.agg (rTx (txR l).1),.int .i64 (txR l).2]):=by
 refine FnP.mk Tryz.func75 rfl Tryz.ntmps75 rfl ?_
 intro B a w F hB hfr hS
 refine wp_seq ?_
 refine Zc hS (qf (oH [.int .i64 0,.bool false,.slice none 0 0] 101) trivial qz (qI qZ)) hB [3,2,0] [101,0] (fun _=>rfl) (fun _=>rfl) fun τ a w F hS=>?_
 try dsimp only [RS.sub,SF.sub,CF.sub,csub,Anc.sub,List.map,zCF] at hS
 generalize τ 2=v2 at hS
 refine Zb (wp_seq (wp_seq ?_))
 refine Za hS (qM rfl rfl (qu Tryz.underlying34 r1 (qf (o_sub .t qi) r1 qz (qf (ZaJ .t qi) r1 qz qZ)))) hB [14,3,2,0] [101,0] rfl rfl fun a w F hS=>Zb ?_
 refine Zd hS rfl (fun hc0=>?_) (fun hc0=>?_)
 ·skip
  have hr:txR l=(zeroT,9):=by unfold txR;rw [if_pos (by have h9:=of_decide_eq_true hc0;rw [ZA (by omega)] at h9;omega)]
  refine wp_seq ?_
  refine Za hS (qf (oB [] [.int .i64 0,.bool false,.slice none 0 0] [(0,1),(1,1),(2,1)] .nil) trivial qz (qs 3 101 r2 r1 (qI qZ))) hB [3,2,0] [101,0] rfl rfl fun a w F hS=>Zb (wp_ret (Ze ?_))
  refine Zr hfr hS rfl (.cl 101 true 3 rfl rfl (.tmp rfl .nil)) (.two (.aggLe rfl (by rw [hr];exact ⟨.refl,.refl,.nilSl,trivial⟩)) (.int (by rw [hr])))
 have hl4:¬ 4097<l.length:=by have h9:=of_decide_eq_false hc0;rw [ZA (by omega)] at h9;omega
 have hd2:(l.drop 2).length=l.length - 2:=by rw [List.length_drop]
 refine wp_skip (Zb (wp_seq ?_))
 refine Za hS (qM rfl rfl (qf (o_indexAddr_sl (sz:=1) (.mk Tryz.underlying34 (by kernel_rfl)) (by intro x;rfl) .t qi (by decide) (by omega)) r1 qz (qf (oR false 1 .t) r1 qz (qf (oP (read_c (nth l 0) (by have h9:=hs _ (ZB (show 0<l.length by omega));omega)) Tryz.func118 (Args.one .t)) r1 qz (qM rfl rfl (qf (o_extract .t rfl) r1 qz (qf (o_extract .t rfl) r1 qz (qN rfl rfl (qN rfl rfl qZ))))))))) hB [5,4,3,2,0] [101,0] rfl rfl fun a w F hS=>Zb (wp_seq (wp_block (wp_seq ?_)))
 refine Za hS (qM rfl rfl (qf (o_neq .t qi) r1 qz (qN rfl rfl qZ))) hB [23,5,4,3,2,0] [101,0] rfl rfl fun a w F hS=>Zb ?_
 refine Zd hS rfl (fun hc1=>?_) (fun hc1=>?_)
 ·skip
  have hw:(readR (nth l 0)).2≠0:=by simpa using hc1
  have hr:txR l=(zeroT,(readR (nth l 0)).2):=by unfold txR;rw [if_neg hl4,if_pos hw]
  refine wp_seq ?_
  refine Za hS (qf (oB [] [.int .i64 0,.bool false,.slice none 0 0] [(0,1),(1,1),(2,1)] .nil) trivial qz (qM rfl rfl (qs 3 101 r2 r1 (qN rfl rfl qZ)))) hB [4,3,2,0] [101,0] rfl rfl fun a w F hS=>Zb (wp_ret (Zf (Ze ?_)))
  refine Zr hfr hS rfl (.cl 101 true 3 rfl rfl (.tmp rfl .nil)) (.two (.aggLe rfl (by rw [hr];exact ⟨.refl,.refl,.nilSl,trivial⟩)) (.int (by rw [hr])))
 have h0:¬ (readR (nth l 0)).2≠0:=by simpa using hc1
 refine wp_seq ?_
 refine Za hS (qM rfl rfl (qf (o_indexAddr_sl (sz:=1) (.mk Tryz.underlying34 (by kernel_rfl)) (by intro x;rfl) .t qi (by decide) (by omega)) r1 qz (qf (oR false 1 .t) r1 qz (qf (o_neq_bs Tryz.underlying9 .t (.cs (by kernel_rfl))) r1 qz (qM rfl rfl (qm rfl rfl rfl rfl (qk rfl (fun h=>o_indexAddr_sl (sz:=1) (.mk Tryz.underlying34 (by kernel_rfl)) (by intro x;rfl) (.w h) qi (by decide) (by omega)) r2 qz (qk rfl (fun h=>oR false 1 (.w h)) r2 qz (qk rfl (fun h=>o_neq_bs Tryz.underlying9 (.w h) (.cs (by kernel_rfl))) r2 qz (qf (ZI .t .t) r2 qz (qN rfl rfl qZ))))))))))) hB [28,4,3,2,0] [101,0] rfl rfl fun a w F hS=>Zb ?_
 refine Zd hS rfl (fun hc2=>?_) (fun hc2=>?_)
 ·skip
  have h1:nth l 1≠[99]∧nth l 1≠[97]:=by simpa using hc2
  have hr:txR l=(zeroT,11):=by unfold txR;rw [if_neg hl4,if_neg h0,if_pos h1]
  refine wp_seq ?_
  refine Za hS (qf (oB [] [.int .i64 0,.bool false,.slice none 0 0] [(0,1),(1,1),(2,1)] .nil) trivial qz (qs 3 101 r2 r1 (qI qZ))) hB [4,3,2,0] [101,0] rfl rfl fun a w F hS=>Zb (wp_ret (Zf (Ze ?_)))
  refine Zr hfr hS rfl (.cl 101 true 3 rfl rfl (.tmp rfl .nil)) (.two (.aggLe rfl (by rw [hr];exact ⟨.refl,.refl,.nilSl,trivial⟩)) (.int (by rw [hr])))
 have h1:¬ (nth l 1≠[99]∧nth l 1≠[97]):=by
   rintro ⟨g1,g2⟩
   rw [Bool.eq_false_iff] at hc2
   refine hc2 ?_
   simp only [Bool.and_eq_true,Bool.not_eq_true',decide_eq_false_iff_not]
   exact ⟨g1,g2⟩
 refine wp_skip (Zh (Zb (wp_seq ?_)))
 refine Zc hS (qM rfl rfl (qM rfl rfl (qf (o_indexAddr_sl (sz:=1) (.mk Tryz.underlying34 (by kernel_rfl)) (by intro x;rfl) .t qi (by decide) (by omega)) r1 qz (qf (oR false 1 .t) r1 qz (qf (o_eql_bs Tryz.underlying9 .t (.cs (by kernel_rfl))) r1 qz (qf (oB [(0,.tmp 40),(1,.tmp 44)] [.int .i64 0,.bool false,.slice none 0 0] [(0,1),(1,1),(2,1)] (.one rfl .t one_int (by kernel_rfl) (.one rfl .t one_bool (by kernel_rfl) .nil))) r2 qz (qf (oH [.int .i64 0,.bool false,.slice none 0 0] 102) trivial qz (qS 3 102 r2 r1 qZ)))))))) hB [6,3,2,0] [102,101,0] (fun _=>rfl) (fun _=>rfl) fun τ a w F hS=>?_
 try dsimp only [RS.sub,SF.sub,CF.sub,csub,Anc.sub,List.map,Zg,xL,xM,Nat.reduceAdd,xD,xE,xT,xU,xC,xN,zCF,ldSF] at hS
 generalize τ 6=v6 at hS
 refine Zb (wp_seq (wp_seq ?_))
 refine Za hS (qM rfl rfl (qf (o_slice_lo (sz:=1) (.mk Tryz.underlying34 (by kernel_rfl)) (by intro x;rfl) .t qi (by decide) (by omega)) r1 qz (qu Tryz.underlying34 r1 (qJ qZ)))) hB [49,48,47,6,3,2] [102,101,0] rfl rfl fun a w F hS=>Zb (wp_block ?_)
 replace hS:=hS.fresh 50 rfl
 replace hS:=hS.turn 50 rfl (Zbh (T:=53) (sz:=4) (R:=rOp))
 obtain ⟨F,hS⟩:=hS.nm [49,48,47,6,2] [102,101,50,0] rfl rfl
 refine ZC (σ:=(Nat×Value)) (fun s=>(⟨[(2,.pv (.is v2)),(6,.pv (.is v6)),(47,.pv (.sl rS (l.drop 2))),(48,.pv (.int .i64 ((l.drop 2).length:Nat))),(49,.pv (.int .i64 (s.1:Nat)))],[(0,frame B),(50,.ob (.val s.2) (Zu 53 4 rOp ((ZnL (l.drop 2)).take s.1))),(101,.pt (.val v2) 38 [.pv (.int .i64 0),.pv (.bool false),.pv (.is (.slice none 0 0))]),(102,.pt (.val v6) 38 [.pv (.int .i64 (readR (nth l 0)).1),.pv (.bool (decide (nth l 1 = [99]))),.pv (.is s.2)])]⟩:En)) (fun s=>s.1≤(l.drop 2).length ∧ ∀ j,j<s.1→(opR (nth (l.drop 2) j)).2=0) (fun s=>(l.drop 2).length - s.1) (0,.slice none 0 0) hS ⟨Nat.zero_le _,fun j hj=>absurd hj (Nat.not_lt_zero _)⟩ ?_
 clear hS;intro s a w F hC hS
 obtain ⟨i,v⟩:=s
 try dsimp only at hC
 try dsimp only at hS
 obtain ⟨hi0,hz⟩:=hC
 try dsimp only at hi0 hz
 refine wp_seq ?_
 refine Za hS (qL r2) hB [50,49,48,47,6,2] [102,101,50,0] rfl rfl fun a w F hS=>Zb (wp_seq ?_)
 refine Zd hS rfl (fun hc3=>?_) (fun hc3=>?_)
 ·skip
  have hi:i<(l.drop 2).length:=by have h9:=of_decide_eq_true hc3;omega
  refine wp_skip (Zb (wp_seq (wp_block (wp_seq ?_))))
  refine Za hS (qy 1 Tryz.underlying34 r2 (qf (oR false 1 .t) r1 qz (qN rfl rfl qZ))) hB [49,48,47,8,6,2] [102,101,50,0] rfl rfl fun a w F hS=>?_
  rw [Int.toNat_natCast] at hS
  refine Zb (wp_seq ?_)
  refine Zc hS (qM rfl rfl (qf (oP (ZoS (nth (l.drop 2) i) (by have h9:=hs _ (List.mem_of_mem_drop (ZB hi));omega)) Tryz.func119 (Args.one .t)) r1 qz (qM rfl rfl (qf (o_extract .t rfl) r1 qz (qf (o_extract .t rfl) r1 qz (qf (oH [.bool false,.int .i64 0,.int .i64 0,.int .i64 0] 103) trivial qz (qf (oA 4 103 .same (.conv .t .agg)) r2 r1 (qN rfl rfl qZ)))))))) hB [49,48,47,10,9,6,2] [103,102,101,50,0] (fun _=>rfl) (fun _=>rfl) fun τ a w F hS=>?_
  try dsimp only [RS.sub,SF.sub,CF.sub,csub,Anc.sub,List.map,Zg,xL,xM,Nat.reduceAdd,xD,xE,xT,xU,xC,xN,zCF] at hS
  generalize τ 9=v9 at hS
  refine Zb (wp_seq (wp_seq ?_))
  refine Za hS (qM rfl rfl (qf (o_neq .t qi) r1 qz qZ)) hB [59,49,48,47,10,9,6,2] [103,102,101,50,0] rfl rfl fun a w F hS=>Zb ?_
  refine Zd hS rfl (fun hc4=>?_) (fun hc4=>?_)
  ·skip
   have hw:(opR (nth (l.drop 2) i)).2≠0:=by simpa using hc4
   have hb:=ZnX hi hz hw
   have hr:txR l=(zeroT,(opR (nth (l.drop 2) i)).2):=by unfold txR;rw [if_neg hl4,if_neg h0,if_neg h1,if_pos (by rw [hb];exact hw),hb]
   refine wp_seq ?_
   refine Za hS (qf (oB [] [.int .i64 0,.bool false,.slice none 0 0] [(0,1),(1,1),(2,1)] .nil) trivial qz (qM rfl rfl (qs 3 101 r2 r1 (qN rfl rfl qZ)))) hB [49,48,47,9,6,3,2] [103,102,101,50,0] rfl rfl fun a w F hS=>Zb (wp_ret (Ze (Zf (Ze (Ze (Zf (Ze ?_)))))))
   refine Zr hfr hS rfl (.cl 101 true 3 rfl rfl (.tmp rfl .nil)) (.two (.aggLe rfl (by rw [hr];exact ⟨.refl,.refl,.nilSl,trivial⟩)) (.int (by rw [hr])))
  have hzi:(opR (nth (l.drop 2) i)).2=0:=by simpa using hc4
  refine wp_skip (Zb ?_)
  refine Zc hS (qg 2 102 r1 r1 (qa 102 r1 r1 (qe 4 103 r1 r1 (qf (Zk (sz:=4) (zs:=[.bool false,.int .i64 0,.int .i64 0,.int .i64 0]) (r:=[(0,.tmp 64)]) (l:=[_,_,_,_]) Tryz.underlying36 (by kernel_rfl) (by kernel_rfl) (by kernel_rfl) (by kernel_rfl) rfl rfl (.agg rfl .t (by kernel_rfl) (by kernel_rfl) .nil) rfl) r1 qz (qf (o_append (sz:=4) (bs:=32) 50 (.mk' Tryz.underlying36 (by kernel_rfl) (by kernel_rfl)) (by intro x;rfl) .is (.arr (l':=[(opR (nth (l.drop 2) i)).1]) .t) (by simp only [List.length_cons,List.length_nil,List.length_take];unfold ZnL;rw [List.length_map];omega) (by decide)) ⟨rfl,rfl,trivial⟩ ⟨rfl,trivial⟩ (qg 2 102 r1 r1 (qf (Zaz 102 .adr (by kernel_rfl) (by kernel_rfl)) r2 r1 qZ))))))) hB [49,48,47,6,2] [102,101,50,0] (fun _=>rfl) (fun _=>rfl) fun τ a w F hS=>?_
  try dsimp only [RS.sub,SF.sub,CF.sub,csub,Anc.sub,List.map,Zg,xL,xM,Nat.reduceAdd,xD,xE,xT,xU,xC,xN,zCF,ldSF] at hS
  generalize τ 66=v66 at hS
  refine Zh (Zb ?_)
  refine Za hS (qp r1 (qM rfl rfl qZ)) hB [49,48,47,6,2] [102,101,50,0] rfl rfl fun a w F hS=>Zb ?_
  rw [show (ZnL (l.drop 2)).take i ++ [(opR (nth (l.drop 2) i)).1] = (ZnL (l.drop 2)).take (i+1) from ZdI (f:=fun x=>(opR x).1) (by omega)] at hS
  replace hS:=hS.ent (i:=49) (s':=.pv (.int .i64 ((i+1:Nat):Int))) rfl (.int (wrap_succ (by omega)))
  obtain ⟨F,hS⟩:=hS.nm [49,48,47,6,2] [102,101,50,0] rfl rfl
  exact ⟨(i+1,v66),F,⟨by dsimp only;omega,fun j hj=>(Nat.lt_or_ge j i).elim (hz j) (fun h1=>(show i=j by dsimp only at hj;omega) ▸ hzi)⟩,hS,by dsimp only;omega⟩
 have hil:i=(l.drop 2).length:=by have h9:=of_decide_eq_false hc3;omega
 have hbz:=Zf6 (l:=(l.drop 2)) (fun j hj=>hz j (by omega))
 have hr:txR l=(⟨(readR (nth l 0)).1,decide (nth l 1 = [99]),ZnL (l.drop 2)⟩,0):=by unfold txR;rw [if_neg hl4,if_neg h0,if_neg h1,if_neg (by rw [hbz];decide)]
 rw [show (ZnL (l.drop 2)).take i=ZnL (l.drop 2) from List.take_of_length_le (by unfold ZnL;rw [List.length_map];omega)] at hS
 refine wp_exit (Zi (Zi (Zl (Zb (wp_seq ?_)))))
 obtain ⟨F,hS⟩:=hS.giveCell 50 102 2 rfl rfl rfl rfl rfl
 try dsimp only [List.set] at hS
 obtain ⟨F,hS⟩:=hS.nm [50,49,48,47,6,2] [102,101,0] rfl rfl
 refine Za hS (qe 3 102 r1 r1 (qs 3 101 r2 r1 (qI qZ))) hB [3,2] [102,101,0] rfl rfl fun a w F hS=>Zb (wp_ret ?_)
 refine Zr hfr hS rfl (.cl 101 true 3 rfl rfl (.tmp rfl .nil)) (.two (.aggU rfl (by rw [hr] <;> rfl)) (.int (by rw [hr])))
theorem Zsn (b:Nat) (k:Int) (l:List (List UInt8)) (hs:∀ x ∈ l,x.length≤1000000) (hn:l.length≤1000000) (hl:(ZL k).least≤(l.length:Int)+1):FnG Tryz.prog 39 1 [.is (.pointer (some ⟨b,0,none⟩)),.sl rS l] [Zjn 43 ((rCmd (zeroC k)).map CF.pv) (.pointer (some ⟨b,0,none⟩))] (.int .i64 (fillR k l).2) (fun _=>[Zjn 43 ((rCmd (fillR k l).1).map CF.pv) (.pointer (some ⟨b,0,none⟩))]):=by
 refine FnG.mk Tryz.func39 rfl Tryz.ntmps39 rfl (by kernel_rfl) ?_
 intro B F0 a w F hB hG hS
 replace hS:=hS.turn 1 rfl (r':=.pt (.val (.pointer (some ⟨b,0,none⟩))) 43 [.pv (.int .i64 k),.pv (.int .i64 0),.pv (.bool false),.pv (.sl rOp []),.pv (.int .i64 0),.pv (.sl rInt []),.pv (.int .i64 0),.pv (.int .i64 0),.pv (.int .i64 0),.pv (.int .i64 0)]) (fun τ w f y h=>Zqo rfl τ w f y h)
 replace hS:=hS.nm [1,0] [1,0] rfl rfl
 obtain ⟨F,hS⟩:=hS
 refine wp_seq ?_
 refine Za hS (qI qZ) hB [4,1,0] [1,0] rfl rfl fun a w F hS=>Zb (wp_seq ?_)
 refine Za hS (qI qZ) hB [4,1,0] [1,0] rfl rfl fun a w F hS=>Zb (wp_seq ?_)
 refine Za hS (qC qZ) hB [4,1,0] [1,0] rfl rfl fun a w F hS=>Zb (wp_seq (wp_seq ?_))
 refine Za hS (qM rfl rfl (qf (o_nilCheck 1 .is (by rfl)) r1 r1 (qf (oF 0 1 .adr) r1 r1 (qa 1 r1 r1 qZ)))) hB [10,4,1,0] [1,0] rfl rfl fun a w F hS=>Zb (wp_block (wp_seq (wp_seq ?_)))
 refine Za hS (qf (o_eql .t qi) r1 qz (qN rfl rfl qZ)) hB [11,10,4,1,0] [1,0] rfl rfl fun a w F hS=>Zb ?_
 refine Zd hS rfl (fun hc0=>?_) (fun hc0=>?_)
 ·skip
  have hk:k=1∨k=2:=by first | exact .inl (of_decide_eq_true hc0) | exact .inr (of_decide_eq_true hc0)
  have hr:fillR k l=({zeroC k with tx:=(txR l).1},(txR l).2):=by unfold fillR;rw [if_pos hk]
  have hlm:2≤l.length:=by
    rcases hk with hk | hk
    · subst hk;have h9:(3:Int)≤(l.length:Int)+1:=hl;omega
    · subst hk;have h9:(3:Int)≤(l.length:Int)+1:=hl;omega
  refine wp_skip (Zb ?_)
  refine Zd hS rfl (fun hc1=>?_) (fun hc1=>?_)
  ·skip
   have hk:k=1∨k=2:=by first | exact .inl (of_decide_eq_true hc1) | exact .inr (of_decide_eq_true hc1)
   have hr:fillR k l=({zeroC k with tx:=(txR l).1},(txR l).2):=by unfold fillR;rw [if_pos hk]
   have hlm:2≤l.length:=by
     rcases hk with hk | hk
     · subst hk;have h9:(3:Int)≤(l.length:Int)+1:=hl;omega
     · subst hk;have h9:(3:Int)≤(l.length:Int)+1:=hl;omega
   refine wp_seq ?_
   refine Za hS (qM rfl rfl (qM rfl rfl (qf (oP (ZdL l hs hn hlm) Tryz.func75 (Args.one .t)) r1 qz (qM rfl rfl (qf (o_extract .t rfl) r1 qz (qf (o_extract .t rfl) r1 qz (qf (o_nilCheck 1 .is (by rfl)) r1 r1 (qf (oF 1 1 .adr) r1 r1 (qf (oA 3 1 .adr (.conv .t .agg)) r2 r1 (qN rfl rfl qZ)))))))))) hB [5,4,1,0] [1,0] rfl rfl fun a w F hS=>Zb (wp_seq ?_)
   refine Za hS (qM rfl rfl (qN rfl rfl qZ)) hB [4,1,0] [1,0] rfl rfl fun a w F hS=>Zb (wp_ret (Zf (Ze ?_)))
   replace hS:=hS.turn 1 rfl (r':=RS.hp (Zjn 43 ((rCmd (fillR k l).1).map CF.pv) (.pointer (some ⟨b,0,none⟩)))) (fun τ w f y h=>Zcr rfl τ w f y (by rw [hr];exact h))
   refine Zau hG hS rfl (.tmp rfl .nil) (.one (.int (by rw [hr]))) rfl
  exact Bool.noConfusion (hc0.symm.trans hc1)
 have hnk:=of_decide_eq_false hc0
 refine Za hS (qf (o_eql .t qi) r1 qz (qN rfl rfl qZ)) hB [11,10,4,1,0] [1,0] rfl rfl fun a w F hS=>Zb ?_
 refine Zd hS rfl (fun hc2=>?_) (fun hc2=>?_)
 ·skip
  have hk:k=1∨k=2:=by first | exact .inl (of_decide_eq_true hc2) | exact .inr (of_decide_eq_true hc2)
  have hr:fillR k l=({zeroC k with tx:=(txR l).1},(txR l).2):=by unfold fillR;rw [if_pos hk]
  have hlm:2≤l.length:=by
    rcases hk with hk | hk
    · subst hk;have h9:(3:Int)≤(l.length:Int)+1:=hl;omega
    · subst hk;have h9:(3:Int)≤(l.length:Int)+1:=hl;omega
  refine wp_seq ?_
  refine Za hS (qM rfl rfl (qM rfl rfl (qf (oP (ZdL l hs hn hlm) Tryz.func75 (Args.one .t)) r1 qz (qM rfl rfl (qf (o_extract .t rfl) r1 qz (qf (o_extract .t rfl) r1 qz (qf (o_nilCheck 1 .is (by rfl)) r1 r1 (qf (oF 1 1 .adr) r1 r1 (qf (oA 3 1 .adr (.conv .t .agg)) r2 r1 (qN rfl rfl qZ)))))))))) hB [5,4,1,0] [1,0] rfl rfl fun a w F hS=>Zb (wp_seq ?_)
  refine Za hS (qM rfl rfl (qN rfl rfl qZ)) hB [4,1,0] [1,0] rfl rfl fun a w F hS=>Zb (wp_ret (Zf (Ze ?_)))
  replace hS:=hS.turn 1 rfl (r':=RS.hp (Zjn 43 ((rCmd (fillR k l).1).map CF.pv) (.pointer (some ⟨b,0,none⟩)))) (fun τ w f y h=>Zcr rfl τ w f y (by rw [hr];exact h))
  refine Zau hG hS rfl (.tmp rfl .nil) (.one (.int (by rw [hr]))) rfl
 have hnk:=of_decide_eq_false hc2
 refine wp_seq ?_
 refine Za hS (qf (o_eql .t qi) r1 qz (qN rfl rfl qZ)) hB [23,4,1,0] [1,0] rfl rfl fun a w F hS=>Zb ?_
 refine Zd hS rfl (fun hc3=>?_) (fun hc3=>?_)
 ·skip
  have hk:=of_decide_eq_true hc3
  have hlm:1≤l.length:=by subst hk;have h9:(2:Int)≤(l.length:Int)+1:=hl;omega
  refine wp_seq ?_
  refine Za hS (qM rfl rfl (qM rfl rfl (qf (o_indexAddr_sl (sz:=1) (.mk Tryz.underlying34 (by kernel_rfl)) (by intro x;rfl) .t qi (by decide) (by omega)) r1 qz (qf (oR false 1 .t) r1 qz (qf (oP (phen_c (nth l 0)) Tryz.func76 (Args.one .t)) r1 qz (qf (o_nilCheck 1 .is (by rfl)) r1 r1 (qf (oF 9 1 .adr) r1 r1 (qf (o_store1 1 .adr .t one_int (by kernel_rfl) (by kernel_rfl)) r2 r1 qZ)))))))) hB [4,1,0] [1,0] rfl rfl fun a w F hS=>Zb (wp_seq (wp_seq ?_))
  refine Za hS (qM rfl rfl (qf (o_nilCheck 1 .is (by rfl)) r1 r1 (qf (oF 9 1 .adr) r1 r1 (qa 1 r1 r1 (qf (o_eql .t qi) r1 qz qZ))))) hB [36,4,1,0] [1,0] rfl rfl fun a w F hS=>Zb ?_
  refine Zd hS rfl (fun hc4=>?_) (fun hc4=>?_)
  ·skip
   have hp:phenR (nth l 0)=0:=by simpa using hc4
   have hr:fillR k l=({zeroC k with phen:=phenR (nth l 0)},11):=by unfold fillR;rw [if_neg (by omega),if_pos hk,if_pos hp]
   refine wp_seq ?_
   refine Za hS (qI qZ) hB [4,1,0] [1,0] rfl rfl fun a w F hS=>Zb (wp_ret (Ze (Zf (Ze ?_))))
   replace hS:=hS.turn 1 rfl (r':=RS.hp (Zjn 43 ((rCmd (fillR k l).1).map CF.pv) (.pointer (some ⟨b,0,none⟩)))) (fun τ w f y h=>Zcr rfl τ w f y (by rw [hr];exact h))
   refine Zau hG hS rfl (.tmp rfl .nil) (.one (.int (by rw [hr]))) rfl
  have hp:¬ phenR (nth l 0)=0:=by simpa using hc4
  have hr:fillR k l=({zeroC k with phen:=phenR (nth l 0)},0):=by unfold fillR;rw [if_neg (by omega),if_pos hk,if_neg hp]
  refine wp_skip (Zb (wp_seq ?_))
  refine Za hS (qI qZ) hB [4,1,0] [1,0] rfl rfl fun a w F hS=>Zb (wp_ret (Zf (Ze ?_)))
  replace hS:=hS.turn 1 rfl (r':=RS.hp (Zjn 43 ((rCmd (fillR k l).1).map CF.pv) (.pointer (some ⟨b,0,none⟩)))) (fun τ w f y h=>Zcr rfl τ w f y (by rw [hr];exact h))
  refine Zau hG hS rfl (.tmp rfl .nil) (.one (.int (by rw [hr]))) rfl
 have hnk:=of_decide_eq_false hc3
 refine wp_skip (Zh (Zb (wp_seq ?_)))
 refine Za hS (qM rfl rfl (qf (oP (Zop l hs hn) Tryz.func77 (Args.one .t)) r1 qz (qM rfl rfl (qf (o_extract .t rfl) r1 qz (qf (o_extract .t rfl) r1 qz (qN rfl rfl (qN rfl rfl qZ))))))) hB [6,5,4,0] [1,0] rfl rfl fun a w F hS=>Zb (wp_seq (wp_seq ?_))
 refine Za hS (qM rfl rfl (qf (o_neq .t qi) r1 qz qZ)) hB [43,6,5,4,0] [1,0] rfl rfl fun a w F hS=>Zb ?_
 refine Zd hS rfl (fun hc5=>?_) (fun hc5=>?_)
 ·skip
  have hw:(numsR l).2≠0:=by simpa using hc5
  have hr:fillR k l=(zeroC k,(numsR l).2):=by unfold fillR;rw [if_neg (by omega),if_neg (by omega),if_pos hw]
  refine wp_seq ?_
  refine Za hS (qM rfl rfl (qN rfl rfl qZ)) hB [6,4,0] [1,0] rfl rfl fun a w F hS=>Zb (wp_ret (Ze ?_))
  replace hS:=hS.turn 1 rfl (r':=RS.hp (Zjn 43 ((rCmd (fillR k l).1).map CF.pv) (.pointer (some ⟨b,0,none⟩)))) (fun τ w f y h=>Zcr rfl τ w f y (by rw [hr];exact h))
  refine Zau hG hS rfl (.tmp rfl .nil) (.one (.int (by rw [hr]))) rfl
 have hw:¬ (numsR l).2≠0:=by simpa using hc5
 have hnl:(numsR l).1.length=l.length:=by rw [(Zpz (Classical.not_not.1 hw)).1,Zhk]
 refine wp_skip (Zb (wp_seq (wp_seq ?_)))
 refine Za hS (qM rfl rfl (qf (o_nilCheck 1 .is (by rfl)) r1 r1 (qf (oF 0 1 .adr) r1 r1 (qa 1 r1 r1 qZ)))) hB [48,6,4,0] [1,0] rfl rfl fun a w F hS=>Zb (wp_block (wp_seq (wp_seq ?_)))
 refine Za hS (qf (o_eql .t qi) r1 qz (qN rfl rfl qZ)) hB [49,48,6,4,0] [1,0] rfl rfl fun a w F hS=>Zb ?_
 refine Zd hS rfl (fun hc6=>?_) (fun hc6=>?_)
 ·skip
  have hk:k=3∨k=10:=by first | exact .inl (of_decide_eq_true hc6) | exact .inr (of_decide_eq_true hc6)
  have hlm:1≤l.length:=by
    rcases hk with hk | hk
    · subst hk;have h9:(2:Int)≤(l.length:Int)+1:=hl;omega
    · subst hk;have h9:(2:Int)≤(l.length:Int)+1:=hl;omega
  have hr:fillR k l=({zeroC k with id:=nth (numsR l).1 0},0):=by unfold fillR;rw [if_neg (by omega),if_neg (by omega),if_neg hw,if_pos hk]
  refine wp_skip (Zb ?_)
  refine Zd hS rfl (fun hc7=>?_) (fun hc7=>?_)
  ·skip
   have hk:k=3∨k=10:=by first | exact .inl (of_decide_eq_true hc7) | exact .inr (of_decide_eq_true hc7)
   have hlm:1≤l.length:=by
     rcases hk with hk | hk
     · subst hk;have h9:(2:Int)≤(l.length:Int)+1:=hl;omega
     · subst hk;have h9:(2:Int)≤(l.length:Int)+1:=hl;omega
   have hr:fillR k l=({zeroC k with id:=nth (numsR l).1 0},0):=by unfold fillR;rw [if_neg (by omega),if_neg (by omega),if_neg hw,if_pos hk]
   refine Za hS (qM rfl rfl (qM rfl rfl (qf (o_indexAddr_sl (sz:=1) (.mk Tryz.underlying39 (by kernel_rfl)) (by intro x;rfl) .t qi (by decide) (by omega)) r1 qz (qf (oR false 1 .t) r1 qz (qf (o_nilCheck 1 .is (by rfl)) r1 r1 (qf (oF 7 1 .adr) r1 r1 (qf (o_store1 1 .adr .t one_int (by kernel_rfl) (by kernel_rfl)) r2 r1 qZ))))))) hB [4] [1,0] rfl rfl fun a w F hS=>Zh (Zb (wp_seq ?_))
   refine Za hS (qI qZ) hB [4] [1,0] rfl rfl fun a w F hS=>Zb (wp_ret ?_)
   replace hS:=hS.turn 1 rfl (r':=RS.hp (Zjn 43 ((rCmd (fillR k l).1).map CF.pv) (.pointer (some ⟨b,0,none⟩)))) (fun τ w f y h=>Zcr rfl τ w f y (by rw [hr];exact h))
   refine Zau hG hS rfl (.tmp rfl .nil) (.one (.int (by rw [hr]))) rfl
  exact Bool.noConfusion (hc6.symm.trans hc7)
 have hnk:=of_decide_eq_false hc6
 refine Za hS (qf (o_eql .t qi) r1 qz (qN rfl rfl qZ)) hB [49,48,6,4,0] [1,0] rfl rfl fun a w F hS=>Zb ?_
 refine Zd hS rfl (fun hc8=>?_) (fun hc8=>?_)
 ·skip
  have hk:k=3∨k=10:=by first | exact .inl (of_decide_eq_true hc8) | exact .inr (of_decide_eq_true hc8)
  have hlm:1≤l.length:=by
    rcases hk with hk | hk
    · subst hk;have h9:(2:Int)≤(l.length:Int)+1:=hl;omega
    · subst hk;have h9:(2:Int)≤(l.length:Int)+1:=hl;omega
  have hr:fillR k l=({zeroC k with id:=nth (numsR l).1 0},0):=by unfold fillR;rw [if_neg (by omega),if_neg (by omega),if_neg hw,if_pos hk]
  refine Za hS (qM rfl rfl (qM rfl rfl (qf (o_indexAddr_sl (sz:=1) (.mk Tryz.underlying39 (by kernel_rfl)) (by intro x;rfl) .t qi (by decide) (by omega)) r1 qz (qf (oR false 1 .t) r1 qz (qf (o_nilCheck 1 .is (by rfl)) r1 r1 (qf (oF 7 1 .adr) r1 r1 (qf (o_store1 1 .adr .t one_int (by kernel_rfl) (by kernel_rfl)) r2 r1 qZ))))))) hB [4] [1,0] rfl rfl fun a w F hS=>Zh (Zb (wp_seq ?_))
  refine Za hS (qI qZ) hB [4] [1,0] rfl rfl fun a w F hS=>Zb (wp_ret ?_)
  replace hS:=hS.turn 1 rfl (r':=RS.hp (Zjn 43 ((rCmd (fillR k l).1).map CF.pv) (.pointer (some ⟨b,0,none⟩)))) (fun τ w f y h=>Zcr rfl τ w f y (by rw [hr];exact h))
  refine Zau hG hS rfl (.tmp rfl .nil) (.one (.int (by rw [hr]))) rfl
 have hnk:=of_decide_eq_false hc8
 refine wp_seq ?_
 refine Za hS (qf (o_eql .t qi) r1 qz (qN rfl rfl qZ)) hB [58,48,6,4,0] [1,0] rfl rfl fun a w F hS=>Zb ?_
 refine Zd hS rfl (fun hc9=>?_) (fun hc9=>?_)
 ·skip
  have hk:=of_decide_eq_true hc9
  have hlm:1≤l.length:=by subst hk;have h9:(2:Int)≤(l.length:Int)+1:=hl;omega
  have hr:fillR k l=({zeroC k with order:=⟨nth (numsR l).1 0,(numsR l).1.drop 1⟩},0):=by unfold fillR;rw [if_neg (by omega),if_neg (by omega),if_neg hw,if_neg (by omega),if_pos hk]
  refine Zw hS (qM rfl rfl (qM rfl rfl (qf (o_indexAddr_sl (sz:=1) (.mk Tryz.underlying39 (by kernel_rfl)) (by intro x;rfl) .t qi (by decide) (by omega)) r1 qz (qf (oR false 1 .t) r1 qz (qM rfl rfl (qf (o_slice_lo (sz:=1) (.mk Tryz.underlying39 (by kernel_rfl)) (by intro x;rfl) .t qi (by decide) (by omega)) r1 qz (qf (oB [(0,.tmp 63),(1,.tmp 65)] [.int .i64 0,.slice none 0 0] [(0,1),(1,1)] (.one rfl .t one_int (by kernel_rfl) (.one rfl .t one_sl (by kernel_rfl) .nil))) r2 qz (qf (o_nilCheck 1 .is (by rfl)) r1 r1 (qf (oF 4 1 .adr) r1 r1 (qf (oA 2 1 .adr .t) r2 r1 qZ)))))))))) hB [4] [1,0] rfl rfl fun a w F hS=>?_
  try dsimp only [List.map,Zg,xL,xM,Nat.reduceAdd,xD,xE,xT,xU,xC,xN,zCF,ldSF] at hS
  refine Zh (Zb (wp_seq ?_))
  refine Za hS (qI qZ) hB [4] [1,0] rfl rfl fun a w F hS=>Zb (wp_ret ?_)
  replace hS:=hS.turn 1 rfl (r':=RS.hp (Zjn 43 ((rCmd (fillR k l).1).map CF.pv) (.pointer (some ⟨b,0,none⟩)))) (fun τ w f y h=>Zcr rfl τ w f y (by rw [hr];exact h))
  refine Zau hG hS rfl (.tmp rfl .nil) (.one (.int (by rw [hr]))) rfl
 have hnk:=of_decide_eq_false hc9
 refine wp_seq ?_
 refine Za hS (qf (o_eql .t qi) r1 qz (qN rfl rfl qZ)) hB [69,6,4,0] [1,0] rfl rfl fun a w F hS=>Zb ?_
 refine Zd hS rfl (fun hc10=>?_) (fun hc10=>?_)
 ·skip
  have hk:=of_decide_eq_true hc10
  have hlm:3≤l.length:=by subst hk;have h9:(4:Int)≤(l.length:Int)+1:=hl;omega
  have hr:fillR k l=({zeroC k with key:=nth (numsR l).1 0,id:=nth (numsR l).1 1,place:=nth (numsR l).1 2},0):=by unfold fillR;rw [if_neg (by omega),if_neg (by omega),if_neg hw,if_neg (by omega),if_neg (by omega),if_pos hk]
  refine Zw hS (qM rfl rfl (qM rfl rfl (qM rfl rfl (qM rfl rfl (qf (o_indexAddr_sl (sz:=1) (.mk Tryz.underlying39 (by kernel_rfl)) (by intro x;rfl) .t qi (by decide) (by omega)) r1 qz (qf (oR false 1 .t) r1 qz (qM rfl rfl (qf (o_indexAddr_sl (sz:=1) (.mk Tryz.underlying39 (by kernel_rfl)) (by intro x;rfl) .t qi (by decide) (by omega)) r1 qz (qf (oR false 1 .t) r1 qz (qM rfl rfl (qf (o_indexAddr_sl (sz:=1) (.mk Tryz.underlying39 (by kernel_rfl)) (by intro x;rfl) .t qi (by decide) (by omega)) r1 qz (qf (oR false 1 .t) r1 qz (qf (o_nilCheck 1 .is (by rfl)) r1 r1 (qf (oF 6 1 .adr) r1 r1 (qf (o_store1 1 .adr .t one_int (by kernel_rfl) (by kernel_rfl)) r2 r1 (qf (o_nilCheck 1 .is (by rfl)) r1 r1 (qf (oF 7 1 .adr) r1 r1 (qf (o_store1 1 .adr .t one_int (by kernel_rfl) (by kernel_rfl)) r2 r1 (qf (o_nilCheck 1 .is (by rfl)) r1 r1 (qf (oF 8 1 .adr) r1 r1 (qf (o_store1 1 .adr .t one_int (by kernel_rfl) (by kernel_rfl)) r2 r1 qZ))))))))))))))))))))) hB [4] [1,0] rfl rfl fun a w F hS=>?_
  try dsimp only [List.map,Zg,xL,xM,Nat.reduceAdd,xD,xE,xT,xU,xC,xN,zCF,ldSF] at hS
  refine Zh (Zb (wp_seq ?_))
  refine Za hS (qI qZ) hB [4] [1,0] rfl rfl fun a w F hS=>Zb (wp_ret ?_)
  replace hS:=hS.turn 1 rfl (r':=RS.hp (Zjn 43 ((rCmd (fillR k l).1).map CF.pv) (.pointer (some ⟨b,0,none⟩)))) (fun τ w f y h=>Zcr rfl τ w f y (by rw [hr];exact h))
  refine Zau hG hS rfl (.tmp rfl .nil) (.one (.int (by rw [hr]))) rfl
 have hnk:=of_decide_eq_false hc10
 have hr:fillR k l=(zeroC k,0):=by unfold fillR;rw [if_neg (by omega),if_neg (by omega),if_neg hw,if_neg (by omega),if_neg (by omega),if_neg (by omega)]
 refine wp_skip (Zh (Zb (wp_seq ?_)))
 refine Za hS (qI qZ) hB [4] [1,0] rfl rfl fun a w F hS=>Zb (wp_ret ?_)
 replace hS:=hS.turn 1 rfl (r':=RS.hp (Zjn 43 ((rCmd (fillR k l).1).map CF.pv) (.pointer (some ⟨b,0,none⟩)))) (fun τ w f y h=>Zcr rfl τ w f y (by rw [hr];exact h))
 refine Zau hG hS rfl (.tmp rfl .nil) (.one (.int (by rw [hr]))) rfl
theorem ZqM {l:List (List UInt8)} {x:List UInt8} (h:x ∈ l):x.length≤sumL l:=by
 unfold sumL
 induction l with
 | nil=>simp at h
 | cons y r ih=>
   rw [List.map_cons,List.sum_cons]
   rcases List.mem_cons.1 h with rfl | h
   · omega
   · have:=ih h;omega
theorem Zrx (s0:List UInt8) (hs:s0.length≤1000000):FnP Tryz.prog 12 [.bs s0] (.tup [.agg (rCmd (Zbx s0).1),.int .i64 (Zbx s0).2]):=by
 refine FnP.mk Tryz.func12 rfl Tryz.ntmps12 rfl ?_
 intro B a w F hB hfr hS
 have hws:=ZjU s0
 refine wp_seq ?_
 refine Zc hS (qf (oH [.int .i64 0,.int .i64 0,.bool false,.slice none 0 0,.int .i64 0,.slice none 0 0,.int .i64 0,.int .i64 0,.int .i64 0,.int .i64 0] 101) trivial qz (qI qZ)) hB [3,2,0] [101,0] (fun _=>rfl) (fun _=>rfl) fun τ a w F hS=>?_
 try dsimp only [RS.sub,SF.sub,CF.sub,csub,Anc.sub,List.map,zCF] at hS
 generalize τ 2=v2 at hS
 refine Zb (wp_seq ?_)
 refine Za hS (qM rfl rfl (qf (oP (ZpH s0 hs) Tryz.func36 (Args.one .t)) r1 qz (qM rfl rfl (qf (o_extract .t rfl) r1 qz (qf (o_extract .t rfl) r1 qz (qN rfl rfl (qN rfl rfl qZ))))))) hB [5,4,3,2] [101,0] rfl rfl fun a w F hS=>Zb (wp_seq (wp_block (wp_seq ?_)))
 refine Za hS (qM rfl rfl (qf (o_neq .t qi) r1 qz (qN rfl rfl qZ))) hB [14,5,4,3,2] [101,0] rfl rfl fun a w F hS=>Zb ?_
 refine Zd hS rfl (fun hc0=>?_) (fun hc0=>?_)
 ·skip
  have hw:(wordsR s0).2≠0:=by simpa using hc0
  have hr:Zbx s0=(zeroC 0,(wordsR s0).2):=by unfold Zbx;rw [if_pos hw]
  refine wp_seq ?_
  refine Za hS (qf (oB [] [.int .i64 0,.int .i64 0,.bool false,.slice none 0 0,.int .i64 0,.slice none 0 0,.int .i64 0,.int .i64 0,.int .i64 0,.int .i64 0] [(0,1),(1,3),(4,2),(6,1),(7,1),(8,1),(9,1)] .nil) trivial qz (qM rfl rfl (qs 10 101 r2 r1 (qN rfl rfl qZ)))) hB [4,3,2] [101,0] rfl rfl fun a w F hS=>Zb (wp_ret (Zf (Ze ?_)))
  refine Zr hfr hS rfl (.cl 101 true 10 rfl rfl (.tmp rfl .nil)) (.two (.aggLe rfl (by rw [hr];exact (by refine ⟨?_,?_,?_,?_,?_,?_,?_,?_,?_,?_,trivial⟩ <;> first | exact PVLe.refl | exact PVLe.nilSl))) (.int (by rw [hr])))
 have hw:¬ (wordsR s0).2≠0:=by simpa using hc0
 have hp:Zbx s0=Zdc (wordsR s0).1:=by unfold Zbx;rw [if_neg hw]
 refine wp_seq ?_
 refine Za hS (qM rfl rfl (qu Tryz.underlying34 r1 (qf (o_eql .t qi) r1 qz (qN rfl rfl qZ)))) hB [19,4,3,2] [101,0] rfl rfl fun a w F hS=>Zb ?_
 refine Zd hS rfl (fun hc1=>?_) (fun hc1=>?_)
 ·skip
  have he:(wordsR s0).1 = []:=List.eq_nil_of_length_eq_zero (by have h9:=of_decide_eq_true hc1;omega)
  have hr:Zbx s0=(zeroC 0,12):=by rw [hp];unfold Zdc;rw [if_pos he]
  refine wp_seq ?_
  refine Za hS (qf (oB [] [.int .i64 0,.int .i64 0,.bool false,.slice none 0 0,.int .i64 0,.slice none 0 0,.int .i64 0,.int .i64 0,.int .i64 0,.int .i64 0] [(0,1),(1,3),(4,2),(6,1),(7,1),(8,1),(9,1)] .nil) trivial qz (qs 10 101 r2 r1 (qI qZ))) hB [4,3,2] [101,0] rfl rfl fun a w F hS=>Zb (wp_ret (Zf (Ze ?_)))
  refine Zr hfr hS rfl (.cl 101 true 10 rfl rfl (.tmp rfl .nil)) (.two (.aggLe rfl (by rw [hr];exact (by refine ⟨?_,?_,?_,?_,?_,?_,?_,?_,?_,?_,trivial⟩ <;> first | exact PVLe.refl | exact PVLe.nilSl))) (.int (by rw [hr])))
 have hlp:0<(wordsR s0).1.length:=by have h9:=of_decide_eq_false hc1;omega
 have he:¬ (wordsR s0).1 = []:=by intro h;rw [h] at hlp;simp at hlp
 refine wp_skip (Zh (Zb (wp_seq ?_)))
 refine Zc hS (qM rfl rfl (qf (o_indexAddr_sl (sz:=1) (.mk Tryz.underlying34 (by kernel_rfl)) (by intro x;rfl) .t qi (by decide) (by omega)) r1 qz (qf (oR false 1 .t) r1 qz (qf (oP (find_c (nth (wordsR s0).1 0)) Tryz.func37 (Args.one .t)) r1 qz (qf (oB [(0,.tmp 27)] [.int .i64 0,.int .i64 0,.bool false,.slice none 0 0,.int .i64 0,.slice none 0 0,.int .i64 0,.int .i64 0,.int .i64 0,.int .i64 0] [(0,1),(1,3),(4,2),(6,1),(7,1),(8,1),(9,1)] (.one rfl .t one_int (by kernel_rfl) .nil)) r1 qz (qf (oH [.int .i64 0,.int .i64 0,.bool false,.slice none 0 0,.int .i64 0,.slice none 0 0,.int .i64 0,.int .i64 0,.int .i64 0,.int .i64 0] 102) trivial qz (qS 10 102 r2 r1 qZ))))))) hB [6,4,3,2] [102,101,0] (fun _=>rfl) (fun _=>rfl) fun τ a w F hS=>?_
 try dsimp only [RS.sub,SF.sub,CF.sub,csub,Anc.sub,List.map,Zg,xL,xM,Nat.reduceAdd,xD,xE,xT,xU,xC,xN,zCF,ldSF] at hS
 generalize τ 6=v6 at hS
 obtain ⟨b,rfl⟩:=hS.shape 102 rfl
 replace hS:=hS.turn 102 rfl (r':=.pt (.val (.pointer (some ⟨b,0,none⟩))) 43 [.pv (.int .i64 (ZbO (nth (wordsR s0).1 0))),.pv (.int .i64 0),.pv (.bool false),.pv (.sl rOp []),.pv (.int .i64 0),.pv (.sl rInt []),.pv (.int .i64 0),.pv (.int .i64 0),.pv (.int .i64 0),.pv (.int .i64 0)]) (ZsC rfl rfl (by refine ⟨?_,?_,?_,?_,?_,?_,?_,?_,?_,?_,trivial⟩ <;> first | exact PVLe.refl | exact PVLe.nilSl))
 obtain ⟨F,hS⟩:=hS.nm [6,4,3,2] [102,101,0] rfl rfl
 refine Zb (wp_seq ?_)
 refine Zc hS (qg 0 102 r1 r1 (qa 102 r1 r1 (qf (oP (Zlr (ZbO (nth (wordsR s0).1 0))) Tryz.func38 (Args.one .t)) r1 qz (qf (oH [.string ⟨#[]⟩,.int .i64 0,.int .i64 0] 103) trivial qz (qf (oA 3 103 .same (.conv .t .agg)) r2 r1 qZ))))) hB [7,6,4,3,2] [103,102,101,0] (fun _=>rfl) (fun _=>rfl) fun τ a w F hS=>?_
 try dsimp only [RS.sub,SF.sub,CF.sub,csub,Anc.sub,List.map,Zg,xL,xM,Nat.reduceAdd,xD,xE,xT,xU,xC,xN,zCF,ldSF] at hS
 generalize τ 7=v7 at hS
 refine Zb (wp_seq (wp_block (wp_seq ?_)))
 refine Za hS (qg 0 102 r1 r1 (qa 102 r1 r1 (qf (o_eql .t qi) r1 qz (qN rfl rfl qZ)))) hB [32,7,6,4,3,2] [103,102,101,0] rfl rfl fun a w F hS=>Zb ?_
 refine Zd hS rfl (fun hc2=>?_) (fun hc2=>?_)
 ·skip
  have hk0:(ZbO (nth (wordsR s0).1 0))=0:=of_decide_eq_true hc2
  have hr:Zbx s0=(zeroC 0,11):=by rw [hp];unfold Zdc;rw [if_neg he,if_pos hk0]
  refine wp_seq ?_
  refine Za hS (qf (oB [] [.int .i64 0,.int .i64 0,.bool false,.slice none 0 0,.int .i64 0,.slice none 0 0,.int .i64 0,.int .i64 0,.int .i64 0,.int .i64 0] [(0,1),(1,3),(4,2),(6,1),(7,1),(8,1),(9,1)] .nil) trivial qz (qs 10 101 r2 r1 (qI qZ))) hB [6,4,3,2] [103,102,101,0] rfl rfl fun a w F hS=>Zb (wp_ret (Zf (Ze ?_)))
  refine Zr hfr hS rfl (.cl 101 true 10 rfl rfl (.tmp rfl .nil)) (.two (.aggLe rfl (by rw [hr];exact (by refine ⟨?_,?_,?_,?_,?_,?_,?_,?_,?_,?_,trivial⟩ <;> first | exact PVLe.refl | exact PVLe.nilSl))) (.int (by rw [hr])))
 have hk0:¬ (ZbO (nth (wordsR s0).1 0))=0:=of_decide_eq_false hc2
 refine wp_seq ?_
 refine Za hS (qM rfl rfl (qu Tryz.underlying34 r1 (qg 1 103 r1 r1 (qa 103 r1 r1 (qf (ZbC .t .t) r2 qz (qN rfl rfl qZ)))))) hB [37,7,6,4,3,2] [103,102,101,0] rfl rfl fun a w F hS=>Zb ?_
 refine Zd hS rfl (fun hc3=>?_) (fun hc3=>?_)
 ·skip
  have hk1:=of_decide_eq_true hc3
  have hr:Zbx s0=(zeroC 0,12):=by rw [hp];unfold Zdc;rw [if_neg he,if_neg hk0,if_pos hk1]
  refine wp_seq ?_
  refine Za hS (qf (oB [] [.int .i64 0,.int .i64 0,.bool false,.slice none 0 0,.int .i64 0,.slice none 0 0,.int .i64 0,.int .i64 0,.int .i64 0,.int .i64 0] [(0,1),(1,3),(4,2),(6,1),(7,1),(8,1),(9,1)] .nil) trivial qz (qs 10 101 r2 r1 (qI qZ))) hB [6,4,3,2] [103,102,101,0] rfl rfl fun a w F hS=>Zb (wp_ret (Zf (Ze ?_)))
  refine Zr hfr hS rfl (.cl 101 true 10 rfl rfl (.tmp rfl .nil)) (.two (.aggLe rfl (by rw [hr];exact (by refine ⟨?_,?_,?_,?_,?_,?_,?_,?_,?_,?_,trivial⟩ <;> first | exact PVLe.refl | exact PVLe.nilSl))) (.int (by rw [hr])))
 have hk1:=of_decide_eq_false hc3
 refine wp_seq ?_
 refine Za hS (qM rfl rfl (qu Tryz.underlying34 r1 (qg 2 103 r1 r1 (qa 103 r1 r1 (qf (ZaJ .t .t) r2 qz (qN rfl rfl qZ)))))) hB [44,6,4,3,2] [103,102,101,0] rfl rfl fun a w F hS=>Zb ?_
 refine Zd hS rfl (fun hc4=>?_) (fun hc4=>?_)
 ·skip
  have hk2:=of_decide_eq_true hc4
  have hr:Zbx s0=(zeroC 0,13):=by rw [hp];unfold Zdc;rw [if_neg he,if_neg hk0,if_neg hk1,if_pos hk2]
  refine wp_seq ?_
  refine Za hS (qf (oB [] [.int .i64 0,.int .i64 0,.bool false,.slice none 0 0,.int .i64 0,.slice none 0 0,.int .i64 0,.int .i64 0,.int .i64 0,.int .i64 0] [(0,1),(1,3),(4,2),(6,1),(7,1),(8,1),(9,1)] .nil) trivial qz (qs 10 101 r2 r1 (qI qZ))) hB [6,4,3,2] [103,102,101,0] rfl rfl fun a w F hS=>Zb (wp_ret (Zf (Ze ?_)))
  refine Zr hfr hS rfl (.cl 101 true 10 rfl rfl (.tmp rfl .nil)) (.two (.aggLe rfl (by rw [hr];exact (by refine ⟨?_,?_,?_,?_,?_,?_,?_,?_,?_,?_,trivial⟩ <;> first | exact PVLe.refl | exact PVLe.nilSl))) (.int (by rw [hr])))
 have hk2:=of_decide_eq_false hc4
 have hdl:((wordsR s0).1.drop 1).length=(wordsR s0).1.length - 1:=by rw [List.length_drop]
 refine wp_skip (Zh (Zb (wp_seq (wp_seq ?_))))
 refine Za hS (qM rfl rfl (qf (o_slice_lo (sz:=1) (.mk Tryz.underlying34 (by kernel_rfl)) (by intro x;rfl) .t qi (by decide) (by omega)) r1 qz (qf (o_callB (cells:=[.pv _,.pv _,.pv _,.pv _,.pv _,.pv _,.pv _,.pv _,.pv _,.pv _]) (cells':=[.pv _,.pv _,.pv _,.pv _,.pv _,.pv _,.pv _,.pv _,.pv _,.pv _]) 102 rfl rfl (Zsn b (ZbO (nth (wordsR s0).1 0)) ((wordsR s0).1.drop 1) (fun x hx=>by have:=ZqM (List.mem_of_mem_drop hx);omega) (by omega) (by omega)) Tryz.func39 rfl (by kernel_rfl) (Args.two .t .t)) r2 r1 (qN rfl rfl qZ)))) hB [8,6,3,2] [103,102,101,0] rfl rfl fun a w F hS=>Zb (wp_seq ?_)
 refine Za hS (qM rfl rfl (qf (o_neq .t qi) r1 qz qZ)) hB [55,8,6,3,2] [103,102,101,0] rfl rfl fun a w F hS=>Zb ?_
 refine Zd hS rfl (fun hc5=>?_) (fun hc5=>?_)
 ·skip
  have hk3:(fillR (ZbO (nth (wordsR s0).1 0)) ((wordsR s0).1.drop 1)).2≠0:=by simpa using hc5
  have hr:Zbx s0=(zeroC 0,(fillR (ZbO (nth (wordsR s0).1 0)) ((wordsR s0).1.drop 1)).2):=by rw [hp];unfold Zdc;rw [if_neg he,if_neg hk0,if_neg hk1,if_neg hk2,if_pos hk3]
  refine wp_seq ?_
  refine Za hS (qf (oB [] [.int .i64 0,.int .i64 0,.bool false,.slice none 0 0,.int .i64 0,.slice none 0 0,.int .i64 0,.int .i64 0,.int .i64 0,.int .i64 0] [(0,1),(1,3),(4,2),(6,1),(7,1),(8,1),(9,1)] .nil) trivial qz (qM rfl rfl (qs 10 101 r2 r1 (qN rfl rfl qZ)))) hB [6,3,2] [103,102,101,0] rfl rfl fun a w F hS=>Zb (wp_ret (Ze ?_))
  refine Zr hfr hS rfl (.cl 101 true 10 rfl rfl (.tmp rfl .nil)) (.two (.aggLe rfl (by rw [hr];exact (by refine ⟨?_,?_,?_,?_,?_,?_,?_,?_,?_,?_,trivial⟩ <;> first | exact PVLe.refl | exact PVLe.nilSl))) (.int (by rw [hr])))
 have hk3:¬ (fillR (ZbO (nth (wordsR s0).1 0)) ((wordsR s0).1.drop 1)).2≠0:=by simpa using hc5
 have hr:Zbx s0=((fillR (ZbO (nth (wordsR s0).1 0)) ((wordsR s0).1.drop 1)).1,0):=by rw [hp];unfold Zdc;rw [if_neg he,if_neg hk0,if_neg hk1,if_neg hk2,if_neg hk3]
 refine wp_skip (Zb (wp_seq ?_))
 refine Za hS (qe 10 102 r1 r1 (qs 10 101 r2 r1 (qI qZ))) hB [3,2] [103,102,101,0] rfl rfl fun a w F hS=>Zb (wp_ret ?_)
 refine Zr hfr hS rfl (.cl 101 true 10 rfl rfl (.tmp rfl .nil)) (.two (.aggU rfl (by rw [hr] <;> rfl)) (.int (by rw [hr])))
end Go.Proofs.YtjhapicamnijnaaGreatDoor
