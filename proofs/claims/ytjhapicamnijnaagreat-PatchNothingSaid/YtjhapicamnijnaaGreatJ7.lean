/- Texts put together. No condition beyond those that each theorem says. -/
import Derived.Test.YtjhapicamnijnaaGreatJ5
import Derived.Test.YtjhapicamnijnaaGreatJ6
import Derived.Test.YtjhapicamnijnaaGreatJ3
import Derived.Test.YtjhapicamnijnaaGreatJ2
import Derived.Test.YtjhapicamnijnaaGreatJ0
import Derived.Test.YtjhapicamnijnaaGreatJ4
namespace Go.Proofs.YtjhapicamnijnaaGreat
open Go Go.Gm
set_option linter.unusedVariables false
set_option linter.unusedSimpArgs false
set_option maxHeartbeats 4000000
set_option maxRecDepth 8000
theorem Zmr (l : List OpD) (p : OpD → Bool) (f : FuncId) (fn : Func) (cps : List PV) (hf : Tryz.prog.funcs[f]? = some fn) (hb : fn.body.isSome = true) (hnn : (fn.name == "runtime.NumGoroutine") = false) (hw : ∀ x, FnP Tryz.prog f (.agg (rOp x) :: cps) (.bool (p x))) : FnP Tryz.prog 107 [.sl rOp l, .clos f cps] (.bool (l.any p)) := by
 refine FnP.mk Tryz.func107 rfl Tryz.ntmps107 rfl ?_
 intro B a w F hB hfr hS
 refine wp_seq ?_
 refine Za hS qB hB [4,1,0] [0] rfl rfl fun a w F hS=>Zb (wp_seq ?_)
 refine Za hS (qM rfl rfl (qM rfl rfl (qf (oP (Zmk l p f fn cps hf hb hnn hw) Tryz.func166 (Args.two .t .t)) r2 qz (qf (ZfI .t qi) r1 qz (qN rfl rfl qZ))))) hB [4] [0] rfl rfl fun a w F hS=>Zb (wp_ret ?_)
 refine Zq hfr hS rfl rfl rfl (.bool (by rw [ZiT]))
theorem Zn8 (o:OpD):FnP Tryz.prog 108 [.agg (rOp o)] (.bool o.read):=by
 refine FnP.mk Tryz.func108 rfl Tryz.ntmps108 rfl ?_
 intro B a w F hB hfr hS
 refine wp_seq ?_
 refine Zc hS (qx 101 r1 qB) hB [2,1] [101,0] (fun _=>rfl) (fun _=>rfl) fun τ a w F hS=>?_
 try dsimp only [RS.sub,SF.sub,CF.sub,csub,Anc.sub,List.map,zCF,rOp] at hS
 generalize τ 1=v1 at hS
 refine Zb (wp_seq ?_)
 refine Za hS (qg 0 101 r1 r1 (qa 101 r1 r1 (qN rfl rfl qZ))) hB [2] [0] rfl rfl fun a w F hS=>Zb (wp_ret ?_)
 refine Zq hfr hS rfl rfl rfl .refl
theorem Zn0 (t:TxD):FnP Tryz.prog 48 [.agg (rTx t)] (.bool (Zad t)):=by
 refine FnP.mk Tryz.func48 rfl Tryz.ntmps48 rfl ?_
 intro B a w F hB hfr hS
 refine wp_seq ?_
 refine Zc hS (qx 101 r1 qB) hB [2,1] [101,0] (fun _=>rfl) (fun _=>rfl) fun τ a w F hS=>?_
 try dsimp only [RS.sub,SF.sub,CF.sub,csub,Anc.sub,List.map,zCF,Zk,rTx,Zs,ZG,rInt,rOp] at hS
 generalize τ 1=v1 at hS
 refine Zb (wp_seq ?_)
 refine Za hS (qg 2 101 r1 r1 (qa 101 r1 r1 (qf (oP (Zmr t.ops (fun o=>o.read) 108 Tryz.f108 [] Tryz.func108 rfl (by kernel_rfl) Zn8) Tryz.func107 (Args.two .t (.conv .f (Ent.fnClos)))) r1 qz (qN rfl rfl qZ)))) hB [2] [101,0] rfl rfl fun a w F hS=>Zb (wp_ret ?_)
 refine Zq hfr hS rfl rfl rfl (.bool rfl)
theorem Zot (o:OrdD) (ho:o.txs.length≤1000):FnP Tryz.prog 50 [.agg (Zs o)] (.sl rCmd (ZbF o)):=by
 refine FnP.mk Tryz.func50 rfl Tryz.ntmps50 rfl ?_
 intro B a w F hB hfr hS
 have hsh:=Zcj (o.txs.mergeSort leI) o.txs
 refine wp_seq ?_
 refine Zc hS (qx 101 r1 (qC qZ)) hB [2,1] [101,0] (fun _=>rfl) (fun _=>rfl) fun τ a w F hS=>?_
 try dsimp only [RS.sub,SF.sub,CF.sub,csub,Anc.sub,List.map,zCF,Zk,rTx,Zs,ZG,rInt,rOp,rCmd,Zdb] at hS
 generalize τ 1=v1 at hS
 refine Zb (wp_seq ?_)
 refine Za hS (qC qZ) hB [3,2,1] [101,0] rfl rfl fun a w F hS=>Zb (wp_seq ?_)
 refine ZC hS (qg 1 101 r1 r1 (qa 101 r1 r1 (qf (oP (ZpX o.txs) Tryz.func110 (Args.one .t)) r1 qz (qf (oP (Zni o.txs (by omega)) Tryz.func109 (Args.one .t)) r1 qz (qg 1 101 r1 r1 (qa 101 r1 r1 (qf (oP (ZkR (o.txs.mergeSort leI) o.txs (by rw [List.length_mergeSort];omega) (by omega)) Tryz.func33 (Args.two .t .t)) r2 qz (qM rfl rfl (qf (o_extract .t rfl) r1 qz (qf (o_extract .t rfl) r1 qz (qN rfl rfl (qN rfl rfl qZ)))))))))))) hB [4,3,2,1] [101,0] rfl rfl fun a w F hS=>?_
 try dsimp only [List.map,xD,xE,xT,xU,ldSF,Zk,rTx,Zs,ZG,rInt,rOp,rCmd,Zdb] at hS
 refine Zb (wp_seq (wp_seq ?_))
 refine Za hS (qM rfl rfl (qu Tryz.underlying65 r1 (qJ qZ))) hB [20,19,18,3,2,1] [101,0] rfl rfl fun a w F hS=>Zb (wp_block ?_)
 replace hS:=hS.fresh 50 rfl
 replace hS:=hS.turn 50 rfl (Zav (T:=45) (sz:=10) (R:=rCmd))
 refine Zo (σ:=(Nat)×(Value)×(List CmdD)) [1,2,18,19] [0,101] (fun s=>[(20,.pv (.int .i64 (s.1:Int))),(3,.pv (.is s.2.1))]) (fun s=>[(50,.ob (.val s.2.1) (Zx 45 10 rCmd s.2.2))]) (fun s=>s.1≤(Zak (o.txs.mergeSort leI) o.txs).1.length∧(s.2.2=((Zak (o.txs.mergeSort leI) o.txs).1.take s.1).map (Zh2 o.key))) (fun s=>(Zak (o.txs.mergeSort leI) o.txs).1.length - s.1) ((0),(.slice none 0 0),([])) hS ⟨rfl,rfl,rfl,rfl,rfl,rfl,trivial⟩ ⟨rfl,rfl,rfl,trivial⟩ ⟨Nat.zero_le _,rfl⟩ ?_
 clear hS;intro s a w F hC hS
 obtain ⟨i,v,out⟩:=s
 try dsimp only at hC
 obtain ⟨F,hS⟩:=hS.nm [20,19,18,3,2,1] [101,50,0] rfl rfl
 try dsimp only at hS
 obtain ⟨hi,hq⟩:=hC
 have hol:out.length≤i:=by rw [hq,List.length_map,List.length_take];omega
 refine wp_seq ?_
 refine Za hS (qL r2) hB [21,20,19,18,3,2,1] [101,50,0] rfl rfl fun a w F hS=>Zb (wp_seq ?_)
 refine Zd hS rfl (fun hc0=>?_) (fun hc0=>?_)
 ·skip
  have hil:i<(Zak (o.txs.mergeSort leI) o.txs).1.length:=by simp at hc0;omega
  have hio:=hil
  refine wp_skip (Zb (wp_seq (wp_block (wp_seq ?_))))
  refine Zc hS (qy 2 Tryz.underlying65 r2 (qf (oR true 2 .t) r1 qz (qf (oH [.int .i64 0,.int .i64 0] 102) trivial qz (qS 2 102 r2 r1 qZ)))) hB [20,19,18,7,3,2,1] [102,101,50,0] (fun _=>rfl) (fun _=>rfl) fun τ a w F hS=>?_
  try dsimp only [RS.sub,SF.sub,CF.sub,csub,Anc.sub,List.map,Zf,xL,xM,Nat.reduceAdd,xD,xE,xT,xU,xC,xN,zCF,ldSF,Zk,rTx,Zs,ZG,rInt,rOp,rCmd,Zdb] at hS
  generalize τ 7=v7 at hS
  try simp only [Int.toNat_natCast] at hS
  refine Zb ?_
  refine Zc hS (qM rfl rfl (qg 0 101 r1 r1 (qa 101 r1 r1 (qg 0 102 r1 r1 (qa 102 r1 r1 (qg 1 102 r1 r1 (qa 102 r1 r1 (qf (oB [(0,_),(3,.tmp 26),(4,.tmp 28),(5,.tmp 30)] [.int .i64 0,.int .i64 0,.bool false,.slice none 0 0,.int .i64 0,.slice none 0 0,.int .i64 0,.int .i64 0,.int .i64 0,.int .i64 0] [(0,1),(1,3),(4,2),(6,1),(7,1),(8,1),(9,1)] (.one rfl qi one_int (by kernel_rfl) (.one rfl .t one_int (by kernel_rfl) (.one rfl .t one_int (by kernel_rfl) (.one rfl .t one_int (by kernel_rfl) .nil))))) r3 qz (qf (Zh (sz:=10) (zs:=[.int .i64 0,.int .i64 0,.bool false,.slice none 0 0,.int .i64 0,.slice none 0 0,.int .i64 0,.int .i64 0,.int .i64 0,.int .i64 0]) (r:=[(0,.tmp 31)]) (l:=[_,_,_,_,_,_,_,_,_,_]) Tryz.underlying26 (by kernel_rfl) (by kernel_rfl) (by kernel_rfl) (by kernel_rfl) rfl rfl (.agg rfl .t (by kernel_rfl) (by kernel_rfl) .nil) rfl) r1 qz (qf (o_append (sz:=10) (bs:=112) 50 (.mk' Tryz.underlying26 (by kernel_rfl) (by kernel_rfl)) (by intro x;rfl) .is (.sl (.conv .t (entArr (l:=[.int .i64 5,.int .i64 0,.bool false,.is (.slice none 0 0),.int .i64 0,.is (.slice none 0 0),.int .i64 o.key,.int .i64 (Go.Gm.nth (Zak (o.txs.mergeSort leI) o.txs).1 i).key,.int .i64 (Go.Gm.nth (Zak (o.txs.mergeSort leI) o.txs).1 i).val,.int .i64 0]) (R:=rCmd) (l':=[Zh2 o.key (Go.Gm.nth (Zak (o.txs.mergeSort leI) o.txs).1 i)]) rfl ⟨PVLe.refl,PVLe.refl,PVLe.refl,PVLe.nilSl,PVLe.refl,PVLe.nilSl,PVLe.refl,PVLe.refl,PVLe.refl,PVLe.refl,trivial⟩))) (by simp only [List.length_append,List.length_cons,List.length_nil];omega) (by decide)) ⟨rfl,rfl,trivial⟩ ⟨rfl,trivial⟩ (qN rfl rfl qZ))))))))))) hB [20,19,18,3,2,1] [102,101,50,0] (fun _=>rfl) (fun _=>rfl) fun τ a w F hS=>?_
  try dsimp only [RS.sub,SF.sub,CF.sub,csub,Anc.sub,List.map,Zf,xL,xM,Nat.reduceAdd,xD,xE,xT,xU,xC,xN,zCF,ldSF,Zk,rTx,Zs,ZG,rInt,rOp,rCmd,Zdb] at hS
  generalize τ 33=v33 at hS
  refine Zi (Zb ?_)
  refine Za hS (qp r1 (qM rfl rfl qZ)) hB [20,19,18,3,2,1] [102,101,50,0] rfl rfl fun a w F hS=>Zb ?_
  replace hS:=hS.ent (i:=20) (s':=.pv (.int .i64 ((i+1:Nat):Int))) rfl (.int (Ze (by omega)))
  obtain ⟨F,hS⟩:=hS.nm [19,18,2,1,3,20] [101,0,50] rfl rfl
  exact ⟨((i+1),_,_),F,⟨by omega,(by rw [Zb5 hio,hq])⟩,hS,by omega⟩
 have hil:i=(Zak (o.txs.mergeSort leI) o.txs).1.length:=by simp at hc0;omega
 refine wp_exit (Zj (Zj (Zp (Zb (wp_seq ?_)))))
 refine Za hS (qM rfl rfl (qN rfl rfl qZ)) hB [2] [101,50,0] rfl rfl fun a w F hS=>Zb (wp_ret ?_)
 obtain ⟨F,hS⟩:=hS.give 50 2 rfl rfl
 refine Zq hfr hS rfl rfl rfl (.sl (by rw [hq,hil,List.take_length];rfl))
theorem ZbG (g:HistD) (hs:ZaY g):FnP Tryz.prog 17 [.agg (Zk g)] (.sl rCmd (commandsC g)):=by
 refine FnP.mk Tryz.func17 rfl Tryz.ntmps17 rfl ?_
 intro B a w F hB hfr hS
 have hst:=hs.1.1
 have hso:=hs.2.1
 refine wp_seq ?_
 refine Zc hS (qx 101 r1 (qC qZ)) hB [2,1] [101,0] (fun _=>rfl) (fun _=>rfl) fun τ a w F hS=>?_
 try dsimp only [RS.sub,SF.sub,CF.sub,csub,Anc.sub,List.map,zCF,Zk,rTx,Zs,ZG,rInt,rOp,rCmd] at hS
 generalize τ 1=v1 at hS
 refine Zb (wp_seq (wp_seq ?_))
 refine Za hS (qe 2 101 r1 r1 (qf (oP (ZbL g hs) Tryz.func16 (Args.one (.pagg .t))) r1 qz (qf (o_not .t) r1 qz qZ))) hB [12,2,1] [101,0] rfl rfl fun a w F hS=>Zb ?_
 refine Zd hS rfl (fun hc0=>?_) (fun hc0=>?_)
 ·skip
  have hr:¬ Zu g:=by simpa using hc0
  refine wp_seq ?_
  refine Za hS (qC qZ) hB [2,1] [101,0] rfl rfl fun a w F hS=>Zb (wp_ret (Zg ?_))
  refine Zq hfr hS rfl rfl rfl (.trans .nilSl (.sl (by first | exact (Zf5 hr).symm | (rw [Zba hr,hq,hil,List.take_length]))))
 have hr:Zu g:=by simpa using hc0
 refine wp_skip (Zb (wp_seq ?_))
 refine Za hS (qC qZ) hB [3,2,1] [101,0] rfl rfl fun a w F hS=>Zb (wp_seq (wp_seq ?_))
 refine Za hS (qg 0 101 r1 r1 (qa 101 r1 r1 (qu Tryz.underlying22 r1 (qJ qZ)))) hB [16,15,14,3,2,1] [101,0] rfl rfl fun a w F hS=>Zb (wp_block ?_)
 replace hS:=hS.fresh 50 rfl
 replace hS:=hS.turn 50 rfl (Zav (T:=45) (sz:=10) (R:=rCmd))
 refine Zo (σ:=(Nat)×(Value)×(List CmdD)) [1,2,14,15] [0,101] (fun s=>[(16,.pv (.int .i64 (s.1:Int))),(3,.pv (.is s.2.1))]) (fun s=>[(50,.ob (.val s.2.1) (Zx 45 10 rCmd s.2.2))]) (fun s=>s.1≤g.txs.length∧(s.2.2=(g.txs.take s.1).map ZbJ)) (fun s=>g.txs.length - s.1) ((0),(.slice none 0 0),([])) hS ⟨rfl,rfl,rfl,rfl,rfl,rfl,trivial⟩ ⟨rfl,rfl,rfl,trivial⟩ ⟨Nat.zero_le _,rfl⟩ ?_
 clear hS;intro s a w F hC hS
 obtain ⟨i,v,out⟩:=s
 try dsimp only at hC
 obtain ⟨F,hS⟩:=hS.nm [16,15,14,3,2,1] [101,50,0] rfl rfl
 try dsimp only at hS
 obtain ⟨hi,hq⟩:=hC
 have hol:out.length≤i:=by rw [hq,List.length_map,List.length_take];omega
 refine wp_seq ?_
 refine Za hS (qL r2) hB [17,16,15,14,3,2,1] [101,50,0] rfl rfl fun a w F hS=>Zb (wp_seq ?_)
 refine Zd hS rfl (fun hc1=>?_) (fun hc1=>?_)
 ·skip
  have hil:i<g.txs.length:=by simp at hc1;omega
  have hio:=hil
  have hxo:=hs.1.at hio
  refine wp_skip (Zb (wp_seq (wp_block (wp_seq ?_))))
  refine Zc hS (qy 3 Tryz.underlying22 r2 (qf (oR true 3 .t) r1 qz (qf (oH [.int .i64 0,.bool false,.slice none 0 0] 102) trivial qz (qS 3 102 r2 r1 qZ)))) hB [16,15,14,5,3,2,1] [102,101,50,0] (fun _=>rfl) (fun _=>rfl) fun τ a w F hS=>?_
  try dsimp only [RS.sub,SF.sub,CF.sub,csub,Anc.sub,List.map,Zf,xL,xM,Nat.reduceAdd,xD,xE,xT,xU,xC,xN,zCF,ldSF,Zk,rTx,Zs,ZG,rInt,rOp,rCmd] at hS
  generalize τ 5=v5 at hS
  try simp only [Int.toNat_natCast] at hS
  refine Zb ?_
  refine Zc hS (qM rfl rfl (qe 3 102 r1 r1 (qf (oP (ZhI (Go.Gm.nth g.txs i) (by omega)) Tryz.func47 (Args.one (.pagg .t))) r1 qz (qf (oB [(0,_),(1,.tmp 22)] [.int .i64 0,.int .i64 0,.bool false,.slice none 0 0,.int .i64 0,.slice none 0 0,.int .i64 0,.int .i64 0,.int .i64 0,.int .i64 0] [(0,1),(1,3),(4,2),(6,1),(7,1),(8,1),(9,1)] (.one rfl qi one_int (by kernel_rfl) (.agg rfl (.conv .t .agg) (by kernel_rfl) (by kernel_rfl) .nil))) r1 qz (qf (Zh (sz:=10) (zs:=[.int .i64 0,.int .i64 0,.bool false,.slice none 0 0,.int .i64 0,.slice none 0 0,.int .i64 0,.int .i64 0,.int .i64 0,.int .i64 0]) (r:=[(0,.tmp 23)]) (l:=[_,_,_,_,_,_,_,_,_,_]) Tryz.underlying26 (by kernel_rfl) (by kernel_rfl) (by kernel_rfl) (by kernel_rfl) rfl rfl (.agg rfl .t (by kernel_rfl) (by kernel_rfl) .nil) rfl) r1 qz (qf (o_append (sz:=10) (bs:=112) 50 (.mk' Tryz.underlying26 (by kernel_rfl) (by kernel_rfl)) (by intro x;rfl) .is (.sl (.conv .t (entArr (l:=[.int .i64 1,.int .i64 (bareT (Go.Gm.nth g.txs i)).id,.bool (bareT (Go.Gm.nth g.txs i)).done,.sl rOp (bareT (Go.Gm.nth g.txs i)).ops,.int .i64 0,.is (.slice none 0 0),.int .i64 0,.int .i64 0,.int .i64 0,.int .i64 0]) (R:=rCmd) (l':=[ZbJ (Go.Gm.nth g.txs i)]) rfl ⟨PVLe.refl,PVLe.refl,PVLe.refl,PVLe.refl,PVLe.refl,PVLe.nilSl,PVLe.refl,PVLe.refl,PVLe.refl,PVLe.refl,trivial⟩))) (by simp only [List.length_append,List.length_cons,List.length_nil];omega) (by decide)) ⟨rfl,rfl,trivial⟩ ⟨rfl,trivial⟩ (qN rfl rfl qZ))))))) hB [16,15,14,3,2,1] [102,101,50,0] (fun _=>rfl) (fun _=>rfl) fun τ a w F hS=>?_
  try dsimp only [RS.sub,SF.sub,CF.sub,csub,Anc.sub,List.map,Zf,xL,xM,Nat.reduceAdd,xD,xE,xT,xU,xC,xN,zCF,ldSF,Zk,rTx,Zs,ZG,rInt,rOp,rCmd] at hS
  generalize τ 25=v25 at hS
  refine Zi (Zb ?_)
  refine Za hS (qp r1 (qM rfl rfl qZ)) hB [16,15,14,3,2,1] [102,101,50,0] rfl rfl fun a w F hS=>Zb ?_
  replace hS:=hS.ent (i:=16) (s':=.pv (.int .i64 ((i+1:Nat):Int))) rfl (.int (Ze (by omega)))
  obtain ⟨F,hS⟩:=hS.nm [15,14,2,1,3,16] [101,0,50] rfl rfl
  exact ⟨((i+1),_,_),F,⟨by omega,(by rw [Zb5 hio,hq])⟩,hS,by omega⟩
 have hil:i=g.txs.length:=by simp at hc1;omega
 have hqe:out=(g.txs.map ZbJ):=by rw [hq,hil,List.take_length]
 subst hqe
 refine wp_exit (Zj (Zj (Zp (Zb (wp_seq (wp_seq ?_))))))
 refine Za hS (qg 0 101 r1 r1 (qa 101 r1 r1 (qu Tryz.underlying22 r1 (qJ qZ)))) hB [30,29,28,3,2,1] [101,50,0] rfl rfl fun a w F hS=>Zb (wp_block ?_)
 refine Zo (σ:=(Nat)×(Value)×(List CmdD)) [1,2,28,29] [0,101] (fun s=>[(30,.pv (.int .i64 (s.1:Int))),(3,.pv (.is s.2.1))]) (fun s=>[(50,.ob (.val s.2.1) (Zx 45 10 rCmd s.2.2))]) (fun s=>s.1≤g.txs.length∧(s.2.2=(g.txs.map ZbJ)++((g.txs.take s.1).filter Zad).map ZbK)) (fun s=>g.txs.length - s.1) ((0),(v),((g.txs.map ZbJ))) hS ⟨rfl,rfl,rfl,rfl,rfl,rfl,trivial⟩ ⟨rfl,rfl,rfl,trivial⟩ ⟨Nat.zero_le _,(by simp)⟩ ?_
 clear hS;intro s a w F hC hS
 obtain ⟨i,v,out⟩:=s
 try dsimp only at hC
 obtain ⟨F,hS⟩:=hS.nm [30,29,28,3,2,1] [101,50,0] rfl rfl
 try dsimp only at hS
 obtain ⟨hi,hq⟩:=hC
 have hol:out.length≤1000+i:=by
   rw [hq,List.length_append,List.length_map,List.length_map]
   have h1:=List.length_filter_le Zad (g.txs.take i)
   rw [List.length_take] at h1
   omega
 have hfs:=fun h b hb=>ZcJ (f:=Zad) (m:=ZbK) (l:=g.txs) (i:=i) h b hb
 refine wp_seq ?_
 refine Za hS (qL r2) hB [31,30,29,28,3,2,1] [101,50,0] rfl rfl fun a w F hS=>Zb (wp_seq ?_)
 refine Zd hS rfl (fun hc2=>?_) (fun hc2=>?_)
 ·skip
  have hil:i<g.txs.length:=by simp at hc2;omega
  have hio:=hil
  have hxo:=hs.1.at hio
  refine wp_skip (Zb (wp_seq (wp_block (wp_seq ?_))))
  refine Zc hS (qy 3 Tryz.underlying22 r2 (qf (oR true 3 .t) r1 qz (qf (oH [.int .i64 0,.bool false,.slice none 0 0] 103) trivial qz (qS 3 103 r2 r1 qZ)))) hB [30,29,28,7,3,2,1] [103,101,50,0] (fun _=>rfl) (fun _=>rfl) fun τ a w F hS=>?_
  try dsimp only [RS.sub,SF.sub,CF.sub,csub,Anc.sub,List.map,Zf,xL,xM,Nat.reduceAdd,xD,xE,xT,xU,xC,xN,zCF,ldSF,Zk,rTx,Zs,ZG,rInt,rOp,rCmd] at hS
  generalize τ 7=v7 at hS
  try simp only [Int.toNat_natCast] at hS
  refine Zb (wp_seq ?_)
  refine Za hS (qe 3 103 r1 r1 (qf (oP (Zn0 (Go.Gm.nth g.txs i)) Tryz.func48 (Args.one (.pagg .t))) r1 qz qZ)) hB [35,30,29,28,7,3,2,1] [103,101,50,0] rfl rfl fun a w F hS=>Zb ?_
  refine Zd hS rfl (fun hc3=>?_) (fun hc3=>?_)
  ·skip
   have hrd:Zad (Go.Gm.nth g.txs i)=true:=by simpa [ZfP] using hc3
   have hst9:out ++ [ZbK (Go.Gm.nth g.txs i)] = (g.txs.map ZbJ)++((g.txs.take (i+1)).filter Zad).map ZbK:=by rw [hfs hio true hrd,hq,List.append_assoc];rfl
   refine wp_seq ?_
   replace hS:=hS.fresh 104 rfl
   refine Zc hS (qg 2 103 r1 r1 (qa 103 r1 r1 (qf (ZaM 104 (Zce (Go.Gm.nth g.txs i).ops (by omega)) Tryz.func49 rfl (by kernel_rfl) (Args.one .t) ZaC) r1 r1 (qg 2 103 r1 r1 (qf (Zac 103 .adr (by kernel_rfl) (by kernel_rfl)) r2 r1 qZ))))) hB [30,29,28,7,3,2,1] [104,103,101,50,0] (fun _=>rfl) (fun _=>rfl) fun τ a w F hS=>?_
   try dsimp only [RS.sub,SF.sub,CF.sub,csub,Anc.sub,List.map,Zf,xL,xM,Nat.reduceAdd,xD,xE,xT,xU,xC,xN,zCF,ldSF,Zk,rTx,Zs,ZG,rInt,rOp,rCmd] at hS
   generalize τ 38=v38 at hS
   obtain ⟨F,hS⟩:=hS.giveCell 104 103 2 rfl rfl rfl rfl rfl
   try dsimp only [List.set] at hS
   obtain ⟨F,hS⟩:=hS.nm [30,29,28,7,3,2,1] [103,101,50,0] rfl rfl
   refine Zb ?_
   refine Zc hS (qM rfl rfl (qe 3 103 r1 r1 (qf (oB [(0,_),(1,.tmp 41)] [.int .i64 0,.int .i64 0,.bool false,.slice none 0 0,.int .i64 0,.slice none 0 0,.int .i64 0,.int .i64 0,.int .i64 0,.int .i64 0] [(0,1),(1,3),(4,2),(6,1),(7,1),(8,1),(9,1)] (.one rfl qi one_int (by kernel_rfl) (.agg rfl .t (by kernel_rfl) (by kernel_rfl) .nil))) r1 qz (qf (Zh (sz:=10) (zs:=[.int .i64 0,.int .i64 0,.bool false,.slice none 0 0,.int .i64 0,.slice none 0 0,.int .i64 0,.int .i64 0,.int .i64 0,.int .i64 0]) (r:=[(0,.tmp 42)]) (l:=[_,_,_,_,_,_,_,_,_,_]) Tryz.underlying26 (by kernel_rfl) (by kernel_rfl) (by kernel_rfl) (by kernel_rfl) rfl rfl (.agg rfl .t (by kernel_rfl) (by kernel_rfl) .nil) rfl) r1 qz (qf (o_append (sz:=10) (bs:=112) 50 (.mk' Tryz.underlying26 (by kernel_rfl) (by kernel_rfl)) (by intro x;rfl) .is (.sl (.conv .t (entArr (l:=[.int .i64 2,.int .i64 (Go.Gm.nth g.txs i).id,.bool (Go.Gm.nth g.txs i).done,.sl rOp (Go.Gm.nth g.txs i).ops,.int .i64 0,.is (.slice none 0 0),.int .i64 0,.int .i64 0,.int .i64 0,.int .i64 0]) (R:=rCmd) (l':=[ZbK (Go.Gm.nth g.txs i)]) rfl ⟨PVLe.refl,PVLe.refl,PVLe.refl,PVLe.refl,PVLe.refl,PVLe.nilSl,PVLe.refl,PVLe.refl,PVLe.refl,PVLe.refl,trivial⟩))) (by simp only [List.length_append,List.length_cons,List.length_nil];omega) (by decide)) ⟨rfl,rfl,trivial⟩ ⟨rfl,trivial⟩ (qN rfl rfl qZ)))))) hB [30,29,28,3,2,1] [103,101,50,0] (fun _=>rfl) (fun _=>rfl) fun τ a w F hS=>?_
   try dsimp only [RS.sub,SF.sub,CF.sub,csub,Anc.sub,List.map,Zf,xL,xM,Nat.reduceAdd,xD,xE,xT,xU,xC,xN,zCF,ldSF,Zk,rTx,Zs,ZG,rInt,rOp,rCmd] at hS
   generalize τ 44=v44 at hS
   refine Zi (Zb ?_)
   refine Za hS (qp r1 (qM rfl rfl qZ)) hB [30,29,28,3,2,1] [103,101,50,0] rfl rfl fun a w F hS=>Zb ?_
   replace hS:=hS.ent (i:=30) (s':=.pv (.int .i64 ((i+1:Nat):Int))) rfl (.int (Ze (by omega)))
   obtain ⟨F,hS⟩:=hS.nm [29,28,2,1,3,30] [101,0,50] rfl rfl
   exact ⟨((i+1),_,_),F,⟨by omega,hst9⟩,hS,by omega⟩
  have hrd:Zad (Go.Gm.nth g.txs i)=false:=by simpa [ZfP] using hc3
  have hst9:out=(g.txs.map ZbJ)++((g.txs.take (i+1)).filter Zad).map ZbK:=by rw [hfs hio false hrd,hq];simp
  refine wp_skip (Zi (Zb ?_))
  refine Za hS (qp r1 (qM rfl rfl qZ)) hB [30,29,28,3,2,1] [103,101,50,0] rfl rfl fun a w F hS=>Zb ?_
  replace hS:=hS.ent (i:=30) (s':=.pv (.int .i64 ((i+1:Nat):Int))) rfl (.int (Ze (by omega)))
  obtain ⟨F,hS⟩:=hS.nm [29,28,2,1,3,30] [101,0,50] rfl rfl
  exact ⟨((i+1),_,_),F,⟨by omega,hst9⟩,hS,by omega⟩
 have hil:i=g.txs.length:=by simp at hc2;omega
 have hqe:out=(g.txs.map ZbJ)++((g.txs.filter Zad).map ZbK):=by rw [hq,hil,List.take_length]
 subst hqe
 refine wp_exit (Zj (Zj (Zp (Zb (wp_seq (wp_seq ?_))))))
 refine Za hS (qg 1 101 r1 r1 (qa 101 r1 r1 (qu Tryz.underlying23 r1 (qJ qZ)))) hB [49,48,47,3,2] [101,50,0] rfl rfl fun a w F hS=>Zb (wp_block ?_)
 refine Zo (σ:=(Nat)×(Value)×(List CmdD)) [2,47,48] [0,101] (fun s=>[(49,.pv (.int .i64 (s.1:Int))),(3,.pv (.is s.2.1))]) (fun s=>[(50,.ob (.val s.2.1) (Zx 45 10 rCmd s.2.2))]) (fun s=>s.1≤g.orders.length∧(s.2.2=((g.txs.map ZbJ)++((g.txs.filter Zad).map ZbK))++(g.orders.take s.1).flatMap ZbF)) (fun s=>g.orders.length - s.1) ((0),(v),((g.txs.map ZbJ)++((g.txs.filter Zad).map ZbK))) hS ⟨rfl,rfl,rfl,rfl,rfl,trivial⟩ ⟨rfl,rfl,rfl,trivial⟩ ⟨Nat.zero_le _,(by simp)⟩ ?_
 clear hS;intro s a w F hC hS
 obtain ⟨i,v,out⟩:=s
 try dsimp only at hC
 obtain ⟨F,hS⟩:=hS.nm [49,48,47,3,2] [101,50,0] rfl rfl
 try dsimp only at hS
 obtain ⟨hi,hq⟩:=hC
 have hol:out.length≤2000+1000*i:=by
   rw [hq,List.length_append,List.length_append,List.length_map,List.length_map]
   have h1:=List.length_filter_le Zad g.txs
   have h2:=ZgB hs.2 i
   omega
 have hml:=fun h=>Nat.le_trans (Zid (Go.Gm.nth g.orders i)) (hs.2.at (i:=i) h)
 refine wp_seq ?_
 refine Za hS (qL r2) hB [50,49,48,47,3,2] [101,50,0] rfl rfl fun a w F hS=>Zb (wp_seq ?_)
 refine Zd hS rfl (fun hc4=>?_) (fun hc4=>?_)
 ·skip
  have hil:i<g.orders.length:=by simp at hc4;omega
  have hio:=hil
  have hoo:=hs.2.at hio
  refine wp_skip (Zb (wp_seq (wp_block (wp_seq ?_))))
  refine Zc hS (qy 2 Tryz.underlying23 r2 (qf (oR true 2 .t) r1 qz (qf (oH [.int .i64 0,.slice none 0 0] 105) trivial qz (qS 2 105 r2 r1 qZ)))) hB [49,48,47,9,3,2] [105,101,50,0] (fun _=>rfl) (fun _=>rfl) fun τ a w F hS=>?_
  try dsimp only [RS.sub,SF.sub,CF.sub,csub,Anc.sub,List.map,Zf,xL,xM,Nat.reduceAdd,xD,xE,xT,xU,xC,xN,zCF,ldSF,Zk,rTx,Zs,ZG,rInt,rOp,rCmd] at hS
  generalize τ 9=v9 at hS
  try simp only [Int.toNat_natCast] at hS
  refine Zb ?_
  refine Zc hS (qM rfl rfl (qe 2 105 r1 r1 (qf (oP (Zot (Go.Gm.nth g.orders i) hoo) Tryz.func50 (Args.one (.pagg .t))) r1 qz (qf (o_append (sz:=10) (bs:=112) 50 (.mk' Tryz.underlying26 (by kernel_rfl) (by kernel_rfl)) (by intro x;rfl) .is (.sl .t) (by have:=hml hio;omega) (by decide)) ⟨rfl,rfl,trivial⟩ ⟨rfl,trivial⟩ (qN rfl rfl qZ))))) hB [49,48,47,3,2] [105,101,50,0] (fun _=>rfl) (fun _=>rfl) fun τ a w F hS=>?_
  try dsimp only [RS.sub,SF.sub,CF.sub,csub,Anc.sub,List.map,xD,xE,xT,xU,xC,xN,ldSF,Zk,rTx,Zs,ZG,rInt,rOp,rCmd] at hS
  generalize τ 56=v56 at hS
  refine Zi (Zb ?_)
  refine Za hS (qp r1 (qM rfl rfl qZ)) hB [49,48,47,3,2] [105,101,50,0] rfl rfl fun a w F hS=>Zb ?_
  replace hS:=hS.ent (i:=49) (s':=.pv (.int .i64 ((i+1:Nat):Int))) rfl (.int (Ze (by omega)))
  obtain ⟨F,hS⟩:=hS.nm [48,47,2,3,49] [101,0,50] rfl rfl
  exact ⟨((i+1),_,_),F,⟨by omega,(by rw [hq,ZD hio,List.flatMap_append,List.append_assoc];simp)⟩,hS,by omega⟩
 have hil:i=g.orders.length:=by simp at hc4;omega
 refine wp_exit (Zj (Zj (Zp (Zb (wp_seq ?_)))))
 refine Za hS (qM rfl rfl (qN rfl rfl qZ)) hB [2] [101,50,0] rfl rfl fun a w F hS=>Zb (wp_ret ?_)
 obtain ⟨F,hS⟩:=hS.give 50 2 rfl rfl
 refine Zq hfr hS rfl rfl rfl (.sl (by first | exact (Zf5 hr).symm | (rw [Zba hr,hq,hil,List.take_length])))
theorem ZnZ (o:OpD):FnP Tryz.prog 143 [.agg (rOp o)] (.bool o.read):=by
 refine FnP.mk Tryz.func143 rfl Tryz.ntmps143 rfl ?_
 intro B a w F hB hfr hS
 refine wp_seq ?_
 refine Zc hS (qx 101 r1 qB) hB [2,1] [101,0] (fun _=>rfl) (fun _=>rfl) fun τ a w F hS=>?_
 try dsimp only [RS.sub,SF.sub,CF.sub,csub,Anc.sub,List.map,zCF,rOp] at hS
 generalize τ 1=v1 at hS
 refine Zb (wp_seq ?_)
 refine Za hS (qg 0 101 r1 r1 (qa 101 r1 r1 (qN rfl rfl qZ))) hB [2] [0] rfl rfl fun a w F hS=>Zb (wp_ret ?_)
 refine Zq hfr hS rfl rfl rfl .refl
theorem ZmA (g o:HistD) (hs:ZaS g.txs) (hso:ZaS o.txs):FnP Tryz.prog 79 [.agg (Zk g),.agg (Zk o)] (.sl ZQ (Zn g o)):=by
 refine FnP.mk Tryz.func79 rfl Tryz.ntmps79 rfl ?_
 intro B a w F hB hfr hS
 have hsl:=hs.1
 refine wp_seq ?_
 refine Zc hS (qx 101 r1 (qx 102 r1 (qC qZ))) hB [4,3,2] [102,101,0] (fun _=>rfl) (fun _=>rfl) fun τ a w F hS=>?_
 try dsimp only [RS.sub,SF.sub,CF.sub,csub,Anc.sub,List.map,zCF,Zk,rTx,Zs,ZG,rInt,rOp,rCmd,ZH,ZaJ,ZQ,ZA] at hS
 generalize τ 2=v2 at hS
 generalize τ 3=v3 at hS
 refine Zb (wp_seq ?_)
 refine Za hS (qC qZ) hB [5,4,3,2] [102,101,0] rfl rfl fun a w F hS=>Zb (wp_seq (wp_seq ?_))
 refine Za hS (qg 0 101 r1 r1 (qa 101 r1 r1 (qu Tryz.underlying22 r1 (qJ qZ)))) hB [13,12,11,5,4,3] [102,101,0] rfl rfl fun a w F hS=>Zb (wp_block ?_)
 replace hS:=hS.fresh 50 rfl
 replace hS:=hS.turn 50 rfl (Zav (T:=104) (sz:=6) (R:=ZQ))
 refine Zo (σ:=(Nat)×(Value)×(List ZY)) [3,4,11,12] [0,101,102] (fun s=>[(13,.pv (.int .i64 (s.1:Int))),(5,.pv (.is s.2.1))]) (fun s=>[(50,.ob (.val s.2.1) (Zx 104 6 ZQ s.2.2))]) (fun s=>s.1≤g.txs.length∧(s.2.2=(g.txs.take s.1).map (Zcl o))) (fun s=>g.txs.length - s.1) ((0),(.slice none 0 0),([])) hS ⟨rfl,rfl,rfl,rfl,rfl,rfl,trivial⟩ ⟨rfl,rfl,rfl,rfl,trivial⟩ ⟨Nat.zero_le _,rfl⟩ ?_
 clear hS;intro s a w F hC hS
 obtain ⟨i,v,out⟩:=s
 try dsimp only at hC
 obtain ⟨F,hS⟩:=hS.nm [13,12,11,5,4,3] [102,101,50,0] rfl rfl
 try dsimp only at hS
 obtain ⟨hi,hq⟩:=hC
 have hol:out.length≤i:=by rw [hq,List.length_map,List.length_take];omega
 refine wp_seq ?_
 refine Za hS (qL r2) hB [14,13,12,11,5,4,3] [102,101,50,0] rfl rfl fun a w F hS=>Zb (wp_seq ?_)
 refine Zd hS rfl (fun hc0=>?_) (fun hc0=>?_)
 ·skip
  have hil:i<g.txs.length:=by simp at hc0;omega
  have hio:=hil
  refine wp_skip (Zb (wp_seq (wp_block (wp_seq ?_))))
  refine Zc hS (qy 3 Tryz.underlying22 r2 (qf (oR true 3 .t) r1 qz (qf (oH [.int .i64 0,.bool false,.slice none 0 0] 103) trivial qz (qS 3 103 r2 r1 qZ)))) hB [13,12,11,7,5,4,3] [103,102,101,50,0] (fun _=>rfl) (fun _=>rfl) fun τ a w F hS=>?_
  try dsimp only [RS.sub,SF.sub,CF.sub,csub,Anc.sub,List.map,Zf,xL,xM,Nat.reduceAdd,xD,xE,xT,xU,xC,xN,zCF,ldSF,Zk,rTx,Zs,ZG,rInt,rOp,rCmd,ZH,ZaJ,ZQ,ZA] at hS
  generalize τ 7=v7 at hS
  try simp only [Int.toNat_natCast] at hS
  refine Zb (wp_seq ?_)
  refine Zc hS (qe 2 102 r1 r1 (qg 0 103 r1 r1 (qa 103 r1 r1 (qf (oP (ZmX o (Go.Gm.nth g.txs i).id hso) Tryz.func27 (Args.two (.pagg .t) .t)) r2 qz (qM rfl rfl (qf (o_extract .t rfl) r1 qz (qf (o_extract .t rfl) r1 qz (qf (oH [.int .i64 0,.bool false,.slice none 0 0] 104) trivial qz (qf (oA 3 104 .same (.conv .t .agg)) r2 r1 (qN rfl rfl qZ)))))))))) hB [13,12,11,9,8,7,5,4,3] [104,103,102,101,50,0] (fun _=>rfl) (fun _=>rfl) fun τ a w F hS=>?_
  try dsimp only [RS.sub,SF.sub,CF.sub,csub,Anc.sub,List.map,Zf,xL,xM,Nat.reduceAdd,xD,xE,xT,xU,xC,xN,zCF,ldSF,Zk,rTx,Zs,ZG,rInt,rOp,rCmd,ZH,ZaJ,ZQ,ZA] at hS
  generalize τ 8=v8 at hS
  refine Zb ?_
  refine ZcU hS (qM rfl rfl (qe 3 103 r1 r1 (qM rfl rfl (qM rfl rfl (qM rfl rfl (qk rfl (fun h=>oL true 3 103 .is) r2 r1 (qk rfl (fun h=>oL true 3 104 .is) r2 r1 (qk rfl (fun h=>oP (Zhy (Go.Gm.nth g.txs i) ((ZK o.txs (Go.Gm.nth g.txs i).id).getD zeroT)) Tryz.func75 (Args.two (.pagg (.w h)) (.pagg (.w h)))) r3 qz (qf (ZB .t .t) r2 qz (qg 2 103 r1 r1 (qa 103 r1 r1 (qf (oP (Zmr (Go.Gm.nth g.txs i).ops (fun o=>o.read) 143 Tryz.f143 [] Tryz.func143 rfl (by kernel_rfl) ZnZ) Tryz.func107 (Args.two .t (.conv .f (Ent.fnClos)))) r1 qz (qf (oB [(0,.tmp 25),(1,.tmp 26),(2,.tmp 32),(3,.tmp 35)] [.int .i64 0,.bool false,.slice none 0 0,.bool false,.bool false,.bool false] [(0,3),(3,1),(4,1),(5,1)] (.agg rfl .t (by kernel_rfl) (by kernel_rfl) (.one rfl .t Za5 (by kernel_rfl) (.one rfl .t Za5 (by kernel_rfl) (.one rfl .t Za5 (by kernel_rfl) .nil))))) r4 qz (qf (Zh (sz:=6) (zs:=[.int .i64 0,.bool false,.slice none 0 0,.bool false,.bool false,.bool false]) (r:=[(0,.tmp 36)]) (l:=[_,_,_,_,_,_]) Tryz.underlying101 (by kernel_rfl) (by kernel_rfl) (by kernel_rfl) (by kernel_rfl) rfl rfl (.agg rfl .t (by kernel_rfl) (by kernel_rfl) .nil) rfl) r1 qz (qf (o_append (sz:=6) (bs:=48) 50 (.mk' Tryz.underlying101 (by kernel_rfl) (by kernel_rfl)) (by intro x;rfl) .is (.arr (l':=[Zcl o (Go.Gm.nth g.txs i)]) .t) (by simp only [List.length_append,List.length_cons,List.length_nil];omega) (by decide)) ⟨rfl,rfl,trivial⟩ ⟨rfl,trivial⟩ (qN rfl rfl qZ)))))))))))))))) hB [13,12,11,5,4,3] [104,103,102,101,50,0] (fun _=>rfl) (fun _=>rfl) fun τ a w F hS=>?_
  try dsimp only [RS.sub,SF.sub,CF.sub,csub,Anc.sub,List.map,Zf,xL,xM,Nat.reduceAdd,xD,xE,xT,xU,xC,xN,zCF,ldSF,Zk,rTx,Zs,ZG,rInt,rOp,rCmd,ZH,ZaJ,ZQ,ZA] at hS
  generalize τ 38=v38 at hS
  refine Zi (Zb ?_)
  refine Za hS (qp r1 (qM rfl rfl qZ)) hB [13,12,11,5,4,3] [104,103,102,101,50,0] rfl rfl fun a w F hS=>Zb ?_
  replace hS:=hS.ent (i:=13) (s':=.pv (.int .i64 ((i+1:Nat):Int))) rfl (.int (Ze (by omega)))
  obtain ⟨F,hS⟩:=hS.nm [12,11,4,3,5,13] [102,101,0,50] rfl rfl
  exact ⟨((i+1),_,_),F,⟨by omega,(by rw [Zb5 hio,hq])⟩,hS,by omega⟩
 have hil:i=g.txs.length:=by simp at hc0;omega
 refine wp_exit (Zj (Zj (Zp (Zb (wp_seq ?_)))))
 refine Za hS (qM rfl rfl (qN rfl rfl qZ)) hB [4] [102,101,50,0] rfl rfl fun a w F hS=>Zb (wp_ret ?_)
 obtain ⟨F,hS⟩:=hS.give 50 4 rfl rfl
 refine Zq hfr hS rfl rfl rfl (.sl (by rw [hq,hil,List.take_length];rfl))
theorem ZfQ {α β:Type} [Inhabited α] {f:α→Bool} {m:α→β} {l:List α} {i:Nat} {out:List β} (hq:out=((l.take i).filter f).map m) (hi:i<l.length) (hf:f (Go.Gm.nth l i)=true):out ++ [m (Go.Gm.nth l i)] = ((l.take (i+1)).filter f).map m:=by rw [ZcJ hi true hf,hq];rfl
theorem Zgn {α β:Type} [Inhabited α] {f:α→Bool} {m:α→β} {l:List α} {i:Nat} {out:List β} (hq:out=((l.take i).filter f).map m) (hi:i<l.length) (hf:f (Go.Gm.nth l i)=false):out=((l.take (i+1)).filter f).map m:=by rw [ZcJ hi false hf,hq];simp
theorem ZiJ (g o:HistD):(Zn g o).length=g.txs.length:=by unfold Zn;rw [List.length_map]
theorem ZpE (g o:HistD) (hs:ZaS g.txs) (ho:ZaS o.txs):FnP Tryz.prog 31 [.agg (Zk g),.agg (Zk o)] (.sl ZH (Zas g o).flatten):=by
 refine FnP.mk Tryz.func31 rfl Tryz.ntmps31 rfl ?_
 intro B a w F hB hfr hS
 have hsl:=hs.1
 have hol:=ho.1
 have hsn:=ZiJ g o
 have hon:=ZiJ o g
 refine wp_seq ?_
 refine Zc hS (qx 101 r1 (qx 102 r1 (qC qZ))) hB [4,3,2] [102,101,0] (fun _=>rfl) (fun _=>rfl) fun τ a w F hS=>?_
 try dsimp only [RS.sub,SF.sub,CF.sub,csub,Anc.sub,List.map,zCF,Zk,rTx,Zs,ZG,rInt,rOp,rCmd,ZH,ZaJ,ZQ,ZA] at hS
 generalize τ 2=v2 at hS
 generalize τ 3=v3 at hS
 refine Zb (wp_seq ?_)
 refine Za hS (qC (qC (qC (qC (qC qZ))))) hB [9,8,7,6,5,4,3,2] [102,101,0] rfl rfl fun a w F hS=>Zb (wp_seq (wp_seq ?_))
 refine Za hS (qe 2 101 r1 r1 (qe 2 102 r1 r1 (qf (oP (ZmA g o hs ho) Tryz.func79 (Args.two (.pagg .t) (.pagg .t))) r2 qz (qu Tryz.underlying101 r1 (qJ qZ))))) hB [18,17,16,9,8,7,6,5,4,3,2] [102,101,0] rfl rfl fun a w F hS=>Zb (wp_block ?_)
 replace hS:=hS.fresh 50 rfl
 replace hS:=hS.turn 50 rfl (Zav (T:=63) (sz:=1) (R:=ZH))
 replace hS:=hS.fresh 51 rfl
 replace hS:=hS.turn 51 rfl (Zav (T:=63) (sz:=1) (R:=ZH))
 refine Zo (σ:=(Nat)×(Value)×(List ZS)×(Value)×(List ZS)) [2,3,4,7,8,9,16,17] [0,101,102] (fun s=>[(18,.pv (.int .i64 (s.1:Int))),(5,.pv (.is s.2.1)),(6,.pv (.is s.2.2.2.1))]) (fun s=>[(50,.ob (.val s.2.1) (Zx 63 1 ZH s.2.2.1)),(51,.ob (.val s.2.2.2.1) (Zx 63 1 ZH s.2.2.2.2))]) (fun s=>s.1≤(Zn g o).length∧(s.2.2.1=ZcB ((Zn g o).take s.1)∧s.2.2.2.2=Zet ((Zn g o).take s.1))) (fun s=>(Zn g o).length - s.1) ((0),(.slice none 0 0),([]),(.slice none 0 0),([])) hS ⟨rfl,rfl,rfl,rfl,rfl,rfl,rfl,rfl,rfl,rfl,rfl,trivial⟩ ⟨rfl,rfl,rfl,rfl,rfl,trivial⟩ ⟨Nat.zero_le _,⟨rfl,rfl⟩⟩ ?_
 clear hS;intro s a w F hC hS
 obtain ⟨i,va,oa,vb,ob⟩:=s
 try dsimp only at hC
 obtain ⟨F,hS⟩:=hS.nm [18,17,16,9,8,7,6,5,4,3,2] [102,101,51,50,0] rfl rfl
 try dsimp only at hS
 obtain ⟨hi,hq⟩:=hC
 obtain ⟨hoa,hob⟩:=hq
 have hloa:oa.length≤i:=by rw [hoa];exact Nat.le_trans (Zbf _ _ _) (by rw [List.length_take];omega)
 have hlob:ob.length≤i:=by rw [hob];exact Nat.le_trans (Zbf _ _ _) (by rw [List.length_take];omega)
 refine wp_seq ?_
 refine Za hS (qL r2) hB [19,18,17,16,9,8,7,6,5,4,3,2] [102,101,51,50,0] rfl rfl fun a w F hS=>Zb (wp_seq ?_)
 refine Zd hS rfl (fun hc0=>?_) (fun hc0=>?_)
 ·skip
  have hil:i<(Zn g o).length:=by simp at hc0;omega
  have hio:=hil
  refine wp_skip (Zb (wp_seq (wp_block (wp_seq ?_))))
  refine Zc hS (qy 6 Tryz.underlying101 r2 (qf (oR true 6 .t) r1 qz (qf (oH [.int .i64 0,.bool false,.slice none 0 0,.bool false,.bool false,.bool false] 103) trivial qz (qS 6 103 r2 r1 qZ)))) hB [18,17,16,11,9,8,7,6,5,4,3,2] [103,102,101,51,50,0] (fun _=>rfl) (fun _=>rfl) fun τ a w F hS=>?_
  try dsimp only [RS.sub,SF.sub,CF.sub,csub,Anc.sub,List.map,Zf,xL,xM,Nat.reduceAdd,xD,xE,xT,xU,xC,xN,zCF,ldSF,Zk,rTx,Zs,ZG,rInt,rOp,rCmd,ZH,ZaJ,ZQ,ZA] at hS
  generalize τ 11=v11 at hS
  try simp only [Int.toNat_natCast] at hS
  refine Zb (wp_seq (wp_seq ?_))
  refine Za hS (qg 4 103 r1 r1 (qa 103 r1 r1 (qf (o_not .t) r1 qz (qM rfl rfl (qv 5 103 rfl r2 r1 (qw 103 rfl r2 r1 (qf (ZB .t .t) r2 qz qZ))))))) hB [28,18,17,16,11,9,8,7,6,5,4,3,2] [103,102,101,51,50,0] rfl rfl fun a w F hS=>Zb ?_
  refine Zd hS rfl (fun hc1=>?_) (fun hc1=>?_)
  ·skip
   have kA:oa ++ [(fun s:ZY=>ZS.plain s.t true) (Go.Gm.nth (Zn g o) i)] = ZcB ((Zn g o).take (i+1)):=ZfQ (f:=fun s:ZY=>!s.just && s.reads) (m:=fun s:ZY=>ZS.plain s.t true) hoa hio (by simpa using hc1)
   refine Zc hS (qM rfl rfl (qg 0 103 r1 r1 (qf (oL true 3 103 .adr) r1 r1 (qf (oB [(0,.tmp 31),(1,_)] [.int .i64 0,.bool false,.slice none 0 0,.bool false] [(0,3),(3,1)] (.agg rfl .t (by kernel_rfl) (by kernel_rfl) (.one rfl .cb Za5 (by kernel_rfl) .nil))) r1 qz (qf (Zdm (p:=.agg [.int .i64 (Go.Gm.nth (Zn g o) i).t.id,.bool (Go.Gm.nth (Zn g o) i).t.done,.sl rOp (Go.Gm.nth (Zn g o) i).t.ops,.bool true]) Tryz.underlying106 (.pagg .t)) r1 qz (qf (Zh (sz:=1) (zs:=[.nilIface]) (r:=[(0,.tmp 33)]) (l:=[_]) Tryz.underlying60 (by kernel_rfl) (by kernel_rfl) (by kernel_rfl) (by kernel_rfl) rfl rfl (.one rfl .t ZdB (by kernel_rfl) .nil) rfl) r1 qz (qf (o_append (sz:=1) (bs:=16) 50 (.mk' Tryz.underlying60 (by kernel_rfl) (by kernel_rfl)) (by intro x;rfl) .is (.arr (l':=[ZS.plain (Go.Gm.nth (Zn g o) i).t true]) .t) (by simp only [List.length_append,List.length_cons,List.length_nil];omega) (by decide)) ⟨rfl,rfl,trivial⟩ ⟨rfl,trivial⟩ (qN rfl rfl qZ)))))))) hB [18,17,16,11,9,8,7,6,5,4,3,2] [103,102,101,51,50,0] (fun _=>rfl) (fun _=>rfl) fun τ a w F hS=>?_
   try dsimp only [RS.sub,SF.sub,CF.sub,csub,Anc.sub,List.map,Zf,xL,xM,Nat.reduceAdd,xD,xE,xT,xU,xC,xN,zCF,ldSF,Zk,rTx,Zs,ZG,rInt,rOp,rCmd,ZH,ZaJ,ZQ,ZA] at hS
   generalize τ 35=v35 at hS
   refine Zb (wp_seq ?_)
   refine Za hS (qg 3 103 r1 r1 (qa 103 r1 r1 (qf (o_not .t) r1 qz qZ))) hB [38,18,17,16,11,9,8,7,6,5,4,3,2] [103,102,101,51,50,0] rfl rfl fun a w F hS=>Zb ?_
   refine Zd hS rfl (fun hc2=>?_) (fun hc2=>?_)
   ·skip
    have kB:ob ++ [(fun s:ZY=>ZS.away s.t) (Go.Gm.nth (Zn g o) i)] = Zet ((Zn g o).take (i+1)):=ZfQ (f:=fun s:ZY=>!s.there) (m:=fun s:ZY=>ZS.away s.t) hob hio (by simpa using hc2)
    refine Zc hS (qM rfl rfl (qg 0 103 r1 r1 (qf (oL true 3 103 .adr) r1 r1 (qf (oB [(0,.tmp 41)] [.int .i64 0,.bool false,.slice none 0 0] [(0,3)] (.agg rfl .t (by kernel_rfl) (by kernel_rfl) .nil)) r1 qz (qf (Zdm (p:=.agg [.int .i64 (Go.Gm.nth (Zn g o) i).t.id,.bool (Go.Gm.nth (Zn g o) i).t.done,.sl rOp (Go.Gm.nth (Zn g o) i).t.ops]) Tryz.underlying108 (.pagg .t)) r1 qz (qf (Zh (sz:=1) (zs:=[.nilIface]) (r:=[(0,.tmp 43)]) (l:=[_]) Tryz.underlying60 (by kernel_rfl) (by kernel_rfl) (by kernel_rfl) (by kernel_rfl) rfl rfl (.one rfl .t ZdB (by kernel_rfl) .nil) rfl) r1 qz (qf (o_append (sz:=1) (bs:=16) 51 (.mk' Tryz.underlying60 (by kernel_rfl) (by kernel_rfl)) (by intro x;rfl) .is (.arr (l':=[ZS.away (Go.Gm.nth (Zn g o) i).t]) .t) (by simp only [List.length_append,List.length_cons,List.length_nil];omega) (by decide)) ⟨rfl,rfl,trivial⟩ ⟨rfl,trivial⟩ (qN rfl rfl qZ)))))))) hB [18,17,16,9,8,7,6,5,4,3,2] [103,102,101,51,50,0] (fun _=>rfl) (fun _=>rfl) fun τ a w F hS=>?_
    try dsimp only [RS.sub,SF.sub,CF.sub,csub,Anc.sub,List.map,Zf,xL,xM,Nat.reduceAdd,xD,xE,xT,xU,xC,xN,zCF,ldSF,Zk,rTx,Zs,ZG,rInt,rOp,rCmd,ZH,ZaJ,ZQ,ZA] at hS
    generalize τ 45=v45 at hS
    refine Zi (Zb ?_)
    refine Za hS (qp r1 (qM rfl rfl qZ)) hB [18,17,16,9,8,7,6,5,4,3,2] [103,102,101,51,50,0] rfl rfl fun a w F hS=>Zb ?_
    replace hS:=hS.ent (i:=18) (s':=.pv (.int .i64 ((i+1:Nat):Int))) rfl (.int (Ze (by omega)))
    obtain ⟨F,hS⟩:=hS.nm [17,16,9,8,7,4,3,2,6,5,18] [102,101,0,51,50] rfl rfl
    exact ⟨((i+1),_,_,_,_),F,⟨by omega,⟨kA,kB⟩⟩,hS,by omega⟩
   have kB:ob=Zet ((Zn g o).take (i+1)):=Zgn (f:=fun s:ZY=>!s.there) (m:=fun s:ZY=>ZS.away s.t) hob hio (by simpa using hc2)
   refine wp_skip (Zi (Zb ?_))
   refine Za hS (qp r1 (qM rfl rfl qZ)) hB [18,17,16,9,8,7,6,5,4,3,2] [103,102,101,51,50,0] rfl rfl fun a w F hS=>Zb ?_
   replace hS:=hS.ent (i:=18) (s':=.pv (.int .i64 ((i+1:Nat):Int))) rfl (.int (Ze (by omega)))
   obtain ⟨F,hS⟩:=hS.nm [17,16,9,8,7,4,3,2,6,5,18] [102,101,0,51,50] rfl rfl
   exact ⟨((i+1),_,_,_,_),F,⟨by omega,⟨kA,kB⟩⟩,hS,by omega⟩
  have kA:oa=ZcB ((Zn g o).take (i+1)):=Zgn (f:=fun s:ZY=>!s.just && s.reads) (m:=fun s:ZY=>ZS.plain s.t true) hoa hio (by simpa using hc1)
  refine wp_skip (Zb (wp_seq ?_))
  refine Za hS (qg 3 103 r1 r1 (qa 103 r1 r1 (qf (o_not .t) r1 qz qZ))) hB [38,18,17,16,11,9,8,7,6,5,4,3,2] [103,102,101,51,50,0] rfl rfl fun a w F hS=>Zb ?_
  refine Zd hS rfl (fun hc3=>?_) (fun hc3=>?_)
  ·skip
   have kB:ob ++ [(fun s:ZY=>ZS.away s.t) (Go.Gm.nth (Zn g o) i)] = Zet ((Zn g o).take (i+1)):=ZfQ (f:=fun s:ZY=>!s.there) (m:=fun s:ZY=>ZS.away s.t) hob hio (by simpa using hc3)
   refine Zc hS (qM rfl rfl (qg 0 103 r1 r1 (qf (oL true 3 103 .adr) r1 r1 (qf (oB [(0,.tmp 41)] [.int .i64 0,.bool false,.slice none 0 0] [(0,3)] (.agg rfl .t (by kernel_rfl) (by kernel_rfl) .nil)) r1 qz (qf (Zdm (p:=.agg [.int .i64 (Go.Gm.nth (Zn g o) i).t.id,.bool (Go.Gm.nth (Zn g o) i).t.done,.sl rOp (Go.Gm.nth (Zn g o) i).t.ops]) Tryz.underlying108 (.pagg .t)) r1 qz (qf (Zh (sz:=1) (zs:=[.nilIface]) (r:=[(0,.tmp 43)]) (l:=[_]) Tryz.underlying60 (by kernel_rfl) (by kernel_rfl) (by kernel_rfl) (by kernel_rfl) rfl rfl (.one rfl .t ZdB (by kernel_rfl) .nil) rfl) r1 qz (qf (o_append (sz:=1) (bs:=16) 51 (.mk' Tryz.underlying60 (by kernel_rfl) (by kernel_rfl)) (by intro x;rfl) .is (.arr (l':=[ZS.away (Go.Gm.nth (Zn g o) i).t]) .t) (by simp only [List.length_append,List.length_cons,List.length_nil];omega) (by decide)) ⟨rfl,rfl,trivial⟩ ⟨rfl,trivial⟩ (qN rfl rfl qZ)))))))) hB [18,17,16,9,8,7,6,5,4,3,2] [103,102,101,51,50,0] (fun _=>rfl) (fun _=>rfl) fun τ a w F hS=>?_
   try dsimp only [RS.sub,SF.sub,CF.sub,csub,Anc.sub,List.map,Zf,xL,xM,Nat.reduceAdd,xD,xE,xT,xU,xC,xN,zCF,ldSF,Zk,rTx,Zs,ZG,rInt,rOp,rCmd,ZH,ZaJ,ZQ,ZA] at hS
   generalize τ 45=v45 at hS
   refine Zi (Zb ?_)
   refine Za hS (qp r1 (qM rfl rfl qZ)) hB [18,17,16,9,8,7,6,5,4,3,2] [103,102,101,51,50,0] rfl rfl fun a w F hS=>Zb ?_
   replace hS:=hS.ent (i:=18) (s':=.pv (.int .i64 ((i+1:Nat):Int))) rfl (.int (Ze (by omega)))
   obtain ⟨F,hS⟩:=hS.nm [17,16,9,8,7,4,3,2,6,5,18] [102,101,0,51,50] rfl rfl
   exact ⟨((i+1),_,_,_,_),F,⟨by omega,⟨kA,kB⟩⟩,hS,by omega⟩
  have kB:ob=Zet ((Zn g o).take (i+1)):=Zgn (f:=fun s:ZY=>!s.there) (m:=fun s:ZY=>ZS.away s.t) hob hio (by simpa using hc3)
  refine wp_skip (Zi (Zb ?_))
  refine Za hS (qp r1 (qM rfl rfl qZ)) hB [18,17,16,9,8,7,6,5,4,3,2] [103,102,101,51,50,0] rfl rfl fun a w F hS=>Zb ?_
  replace hS:=hS.ent (i:=18) (s':=.pv (.int .i64 ((i+1:Nat):Int))) rfl (.int (Ze (by omega)))
  obtain ⟨F,hS⟩:=hS.nm [17,16,9,8,7,4,3,2,6,5,18] [102,101,0,51,50] rfl rfl
  exact ⟨((i+1),_,_,_,_),F,⟨by omega,⟨kA,kB⟩⟩,hS,by omega⟩
 have hil:i=(Zn g o).length:=by simp at hc0;omega
 have hqa:oa=ZcB (Zn g o):=by rw [hoa,hil,List.take_length]
 have hqb:ob=Zet (Zn g o):=by rw [hob,hil,List.take_length]
 subst hqa
 subst hqb
 refine wp_exit (Zj (Zj (Zp (Zb (wp_seq (wp_seq ?_))))))
 refine Za hS (qe 2 102 r1 r1 (qe 2 101 r1 r1 (qf (oP (ZmA o g ho hs) Tryz.func79 (Args.two (.pagg .t) (.pagg .t))) r2 qz (qu Tryz.underlying101 r1 (qJ qZ))))) hB [51,50,49,9,8,7,6,5,4] [102,101,51,50,0] rfl rfl fun a w F hS=>Zb (wp_block ?_)
 replace hS:=hS.fresh 52 rfl
 replace hS:=hS.turn 52 rfl (Zav (T:=63) (sz:=1) (R:=ZH))
 replace hS:=hS.fresh 53 rfl
 replace hS:=hS.turn 53 rfl (Zav (T:=63) (sz:=1) (R:=ZH))
 replace hS:=hS.fresh 54 rfl
 replace hS:=hS.turn 54 rfl (Zav (T:=63) (sz:=1) (R:=ZH))
 refine Zo (σ:=(Nat)×(Value)×(List ZS)×(Value)×(List ZS)×(Value)×(List ZS)) [4,5,6,49,50] [0,50,51,101,102] (fun s=>[(51,.pv (.int .i64 (s.1:Int))),(7,.pv (.is s.2.1)),(8,.pv (.is s.2.2.2.1)),(9,.pv (.is s.2.2.2.2.2.1))]) (fun s=>[(52,.ob (.val s.2.1) (Zx 63 1 ZH s.2.2.1)),(53,.ob (.val s.2.2.2.1) (Zx 63 1 ZH s.2.2.2.2.1)),(54,.ob (.val s.2.2.2.2.2.1) (Zx 63 1 ZH s.2.2.2.2.2.2))]) (fun s=>s.1≤(Zn o g).length∧(s.2.2.1=ZeQ ((Zn o g).take s.1)∧s.2.2.2.2.1=ZeW ((Zn o g).take s.1)∧s.2.2.2.2.2.2=ZdQ ((Zn o g).take s.1))) (fun s=>(Zn o g).length - s.1) ((0),(.slice none 0 0),([]),(.slice none 0 0),([]),(.slice none 0 0),([])) hS ⟨rfl,rfl,rfl,rfl,rfl,rfl,rfl,rfl,rfl,trivial⟩ ⟨rfl,rfl,rfl,rfl,rfl,rfl,rfl,rfl,trivial⟩ ⟨Nat.zero_le _,⟨rfl,rfl,rfl⟩⟩ ?_
 clear hS;intro s a w F hC hS
 obtain ⟨i,vc,oc,vd,od,ve,oe⟩:=s
 try dsimp only at hC
 obtain ⟨F,hS⟩:=hS.nm [51,50,49,9,8,7,6,5,4] [102,101,54,53,52,51,50,0] rfl rfl
 try dsimp only at hS
 obtain ⟨hi,hq⟩:=hC
 obtain ⟨hoc,hod,hoe⟩:=hq
 have hloc:oc.length≤i:=by rw [hoc];exact Nat.le_trans (Zbf _ _ _) (by rw [List.length_take];omega)
 have hlod:od.length≤i:=by rw [hod];exact Nat.le_trans (Zbf _ _ _) (by rw [List.length_take];omega)
 have hloe:oe.length≤i:=by rw [hoe];exact Nat.le_trans (Zbf _ _ _) (by rw [List.length_take];omega)
 refine wp_seq ?_
 refine Za hS (qL r2) hB [52,51,50,49,9,8,7,6,5,4] [102,101,54,53,52,51,50,0] rfl rfl fun a w F hS=>Zb (wp_seq ?_)
 refine Zd hS rfl (fun hc4=>?_) (fun hc4=>?_)
 ·skip
  have hil:i<(Zn o g).length:=by simp at hc4;omega
  have hio:=hil
  refine wp_skip (Zb (wp_seq (wp_block (wp_seq ?_))))
  refine Zc hS (qy 6 Tryz.underlying101 r2 (qf (oR true 6 .t) r1 qz (qf (oH [.int .i64 0,.bool false,.slice none 0 0,.bool false,.bool false,.bool false] 104) trivial qz (qS 6 104 r2 r1 qZ)))) hB [51,50,49,13,9,8,7,6,5,4] [104,102,101,54,53,52,51,50,0] (fun _=>rfl) (fun _=>rfl) fun τ a w F hS=>?_
  try dsimp only [RS.sub,SF.sub,CF.sub,csub,Anc.sub,List.map,Zf,xL,xM,Nat.reduceAdd,xD,xE,xT,xU,xC,xN,zCF,ldSF,Zk,rTx,Zs,ZG,rInt,rOp,rCmd,ZH,ZaJ,ZQ,ZA] at hS
  generalize τ 13=v13 at hS
  try simp only [Int.toNat_natCast] at hS
  refine Zb (wp_seq (wp_block (wp_seq ?_)))
  refine Za hS (qg 4 104 r1 r1 (qa 104 r1 r1 (qN rfl rfl qZ))) hB [62,51,50,49,13,9,8,7,6,5,4] [104,102,101,54,53,52,51,50,0] rfl rfl fun a w F hS=>Zb ?_
  refine Zd hS rfl (fun hc5=>?_) (fun hc5=>?_)
  ·skip
   have hj:(Go.Gm.nth (Zn o g) i).just=true:=hc5
   have kC:oc=ZeQ ((Zn o g).take (i+1)):=Zgn (f:=fun s:ZY=>!s.just && s.there) (m:=fun s:ZY=>ZS.plain s.t true) hoc hio (by simp [hj])
   have kD:od=ZeW ((Zn o g).take (i+1)):=Zgn (f:=fun s:ZY=>!s.just && !s.there) (m:=fun s:ZY=>ZS.plain s.t false) hod hio (by simp [hj])
   have kE:oe=ZdQ ((Zn o g).take (i+1)):=Zgn (f:=fun s:ZY=>!s.just && s.reads) (m:=fun s:ZY=>ZS.whole s.t) hoe hio (by simp [hj])
   refine wp_exit ?_
   refine Zpv (by decide) ?_
   refine Zj (Zp (Zb ?_))
   refine Za hS (qp r1 (qM rfl rfl qZ)) hB [51,50,49,9,8,7,6,5,4] [104,102,101,54,53,52,51,50,0] rfl rfl fun a w F hS=>Zb ?_
   replace hS:=hS.ent (i:=51) (s':=.pv (.int .i64 ((i+1:Nat):Int))) rfl (.int (Ze (by omega)))
   obtain ⟨F,hS⟩:=hS.nm [50,49,6,5,4,9,8,7,51] [102,101,51,50,0,54,53,52] rfl rfl
   exact ⟨((i+1),_,_,_,_,_,_),F,⟨by omega,⟨kC,kD,kE⟩⟩,hS,by omega⟩
  have hj:(Go.Gm.nth (Zn o g) i).just=false:=hc5
  refine wp_seq ?_
  refine Za hS (qg 3 104 r1 r1 (qa 104 r1 r1 (qN rfl rfl qZ))) hB [65,51,50,49,13,9,8,7,6,5,4] [104,102,101,54,53,52,51,50,0] rfl rfl fun a w F hS=>Zb ?_
  refine Zd hS rfl (fun hc6=>?_) (fun hc6=>?_)
  ·skip
   have ht:(Go.Gm.nth (Zn o g) i).there=true:=hc6
   have kC:oc ++ [(fun s:ZY=>ZS.plain s.t true) (Go.Gm.nth (Zn o g) i)] = ZeQ ((Zn o g).take (i+1)):=ZfQ (f:=fun s:ZY=>!s.just && s.there) (m:=fun s:ZY=>ZS.plain s.t true) hoc hio (by simp [hj,ht])
   have kD:od=ZeW ((Zn o g).take (i+1)):=Zgn (f:=fun s:ZY=>!s.just && !s.there) (m:=fun s:ZY=>ZS.plain s.t false) hod hio (by simp [hj,ht])
   refine Zc hS (qM rfl rfl (qg 0 104 r1 r1 (qf (oL true 3 104 .adr) r1 r1 (qf (oB [(0,.tmp 70),(1,_)] [.int .i64 0,.bool false,.slice none 0 0,.bool false] [(0,3),(3,1)] (.agg rfl .t (by kernel_rfl) (by kernel_rfl) (.one rfl .cb Za5 (by kernel_rfl) .nil))) r1 qz (qf (Zdm (p:=.agg [.int .i64 (Go.Gm.nth (Zn o g) i).t.id,.bool (Go.Gm.nth (Zn o g) i).t.done,.sl rOp (Go.Gm.nth (Zn o g) i).t.ops,.bool true]) Tryz.underlying106 (.pagg .t)) r1 qz (qf (Zh (sz:=1) (zs:=[.nilIface]) (r:=[(0,.tmp 72)]) (l:=[_]) Tryz.underlying60 (by kernel_rfl) (by kernel_rfl) (by kernel_rfl) (by kernel_rfl) rfl rfl (.one rfl .t ZdB (by kernel_rfl) .nil) rfl) r1 qz (qf (o_append (sz:=1) (bs:=16) 52 (.mk' Tryz.underlying60 (by kernel_rfl) (by kernel_rfl)) (by intro x;rfl) .is (.arr (l':=[ZS.plain (Go.Gm.nth (Zn o g) i).t true]) .t) (by simp only [List.length_append,List.length_cons,List.length_nil];omega) (by decide)) ⟨rfl,rfl,trivial⟩ ⟨rfl,trivial⟩ (qN rfl rfl qZ)))))))) hB [51,50,49,13,9,8,7,6,5,4] [104,102,101,54,53,52,51,50,0] (fun _=>rfl) (fun _=>rfl) fun τ a w F hS=>?_
   try dsimp only [RS.sub,SF.sub,CF.sub,csub,Anc.sub,List.map,Zf,xL,xM,Nat.reduceAdd,xD,xE,xT,xU,xC,xN,zCF,ldSF,Zk,rTx,Zs,ZG,rInt,rOp,rCmd,ZH,ZaJ,ZQ,ZA] at hS
   generalize τ 74=v74 at hS
   refine Zi (Zb (wp_seq ?_))
   refine Za hS (qg 5 104 r1 r1 (qa 104 r1 r1 qZ)) hB [76,51,50,49,13,9,8,7,6,5,4] [104,102,101,54,53,52,51,50,0] rfl rfl fun a w F hS=>Zb ?_
   refine Zd hS rfl (fun hc7=>?_) (fun hc7=>?_)
   ·skip
    have hrd:(Go.Gm.nth (Zn o g) i).reads=true:=hc7
    have kE:oe ++ [(fun s:ZY=>ZS.whole s.t) (Go.Gm.nth (Zn o g) i)] = ZdQ ((Zn o g).take (i+1)):=ZfQ (f:=fun s:ZY=>!s.just && s.reads) (m:=fun s:ZY=>ZS.whole s.t) hoe hio (by simp [hj,hrd])
    refine Zc hS (qM rfl rfl (qg 0 104 r1 r1 (qf (oL true 3 104 .adr) r1 r1 (qf (oB [(0,.tmp 79)] [.int .i64 0,.bool false,.slice none 0 0] [(0,3)] (.agg rfl .t (by kernel_rfl) (by kernel_rfl) .nil)) r1 qz (qf (Zdm (p:=.agg [.int .i64 (Go.Gm.nth (Zn o g) i).t.id,.bool (Go.Gm.nth (Zn o g) i).t.done,.sl rOp (Go.Gm.nth (Zn o g) i).t.ops]) Tryz.underlying109 (.pagg .t)) r1 qz (qf (Zh (sz:=1) (zs:=[.nilIface]) (r:=[(0,.tmp 81)]) (l:=[_]) Tryz.underlying60 (by kernel_rfl) (by kernel_rfl) (by kernel_rfl) (by kernel_rfl) rfl rfl (.one rfl .t ZdB (by kernel_rfl) .nil) rfl) r1 qz (qf (o_append (sz:=1) (bs:=16) 54 (.mk' Tryz.underlying60 (by kernel_rfl) (by kernel_rfl)) (by intro x;rfl) .is (.arr (l':=[ZS.whole (Go.Gm.nth (Zn o g) i).t]) .t) (by simp only [List.length_append,List.length_cons,List.length_nil];omega) (by decide)) ⟨rfl,rfl,trivial⟩ ⟨rfl,trivial⟩ (qN rfl rfl qZ)))))))) hB [51,50,49,9,8,7,6,5,4] [104,102,101,54,53,52,51,50,0] (fun _=>rfl) (fun _=>rfl) fun τ a w F hS=>?_
    try dsimp only [RS.sub,SF.sub,CF.sub,csub,Anc.sub,List.map,Zf,xL,xM,Nat.reduceAdd,xD,xE,xT,xU,xC,xN,zCF,ldSF,Zk,rTx,Zs,ZG,rInt,rOp,rCmd,ZH,ZaJ,ZQ,ZA] at hS
    generalize τ 83=v83 at hS
    refine Zi (Zb ?_)
    refine Za hS (qp r1 (qM rfl rfl qZ)) hB [51,50,49,9,8,7,6,5,4] [104,102,101,54,53,52,51,50,0] rfl rfl fun a w F hS=>Zb ?_
    replace hS:=hS.ent (i:=51) (s':=.pv (.int .i64 ((i+1:Nat):Int))) rfl (.int (Ze (by omega)))
    obtain ⟨F,hS⟩:=hS.nm [50,49,6,5,4,9,8,7,51] [102,101,51,50,0,54,53,52] rfl rfl
    exact ⟨((i+1),_,_,_,_,_,_),F,⟨by omega,⟨kC,kD,kE⟩⟩,hS,by omega⟩
   have hrd:(Go.Gm.nth (Zn o g) i).reads=false:=hc7
   have kE:oe=ZdQ ((Zn o g).take (i+1)):=Zgn (f:=fun s:ZY=>!s.just && s.reads) (m:=fun s:ZY=>ZS.whole s.t) hoe hio (by simp [hj,hrd])
   refine wp_skip (Zi (Zb ?_))
   refine Za hS (qp r1 (qM rfl rfl qZ)) hB [51,50,49,9,8,7,6,5,4] [104,102,101,54,53,52,51,50,0] rfl rfl fun a w F hS=>Zb ?_
   replace hS:=hS.ent (i:=51) (s':=.pv (.int .i64 ((i+1:Nat):Int))) rfl (.int (Ze (by omega)))
   obtain ⟨F,hS⟩:=hS.nm [50,49,6,5,4,9,8,7,51] [102,101,51,50,0,54,53,52] rfl rfl
   exact ⟨((i+1),_,_,_,_,_,_),F,⟨by omega,⟨kC,kD,kE⟩⟩,hS,by omega⟩
  have ht:(Go.Gm.nth (Zn o g) i).there=false:=hc6
  have kC:oc=ZeQ ((Zn o g).take (i+1)):=Zgn (f:=fun s:ZY=>!s.just && s.there) (m:=fun s:ZY=>ZS.plain s.t true) hoc hio (by simp [hj,ht])
  have kD:od ++ [(fun s:ZY=>ZS.plain s.t false) (Go.Gm.nth (Zn o g) i)] = ZeW ((Zn o g).take (i+1)):=ZfQ (f:=fun s:ZY=>!s.just && !s.there) (m:=fun s:ZY=>ZS.plain s.t false) hod hio (by simp [hj,ht])
  refine Zc hS (qM rfl rfl (qg 0 104 r1 r1 (qf (oL true 3 104 .adr) r1 r1 (qf (oB [(0,.tmp 57),(1,_)] [.int .i64 0,.bool false,.slice none 0 0,.bool false] [(0,3),(3,1)] (.agg rfl .t (by kernel_rfl) (by kernel_rfl) (.one rfl .cb Za5 (by kernel_rfl) .nil))) r1 qz (qf (Zdm (p:=.agg [.int .i64 (Go.Gm.nth (Zn o g) i).t.id,.bool (Go.Gm.nth (Zn o g) i).t.done,.sl rOp (Go.Gm.nth (Zn o g) i).t.ops,.bool false]) Tryz.underlying106 (.pagg .t)) r1 qz (qf (Zh (sz:=1) (zs:=[.nilIface]) (r:=[(0,.tmp 59)]) (l:=[_]) Tryz.underlying60 (by kernel_rfl) (by kernel_rfl) (by kernel_rfl) (by kernel_rfl) rfl rfl (.one rfl .t ZdB (by kernel_rfl) .nil) rfl) r1 qz (qf (o_append (sz:=1) (bs:=16) 53 (.mk' Tryz.underlying60 (by kernel_rfl) (by kernel_rfl)) (by intro x;rfl) .is (.arr (l':=[ZS.plain (Go.Gm.nth (Zn o g) i).t false]) .t) (by simp only [List.length_append,List.length_cons,List.length_nil];omega) (by decide)) ⟨rfl,rfl,trivial⟩ ⟨rfl,trivial⟩ (qN rfl rfl qZ)))))))) hB [51,50,49,13,9,8,7,6,5,4] [104,102,101,54,53,52,51,50,0] (fun _=>rfl) (fun _=>rfl) fun τ a w F hS=>?_
  try dsimp only [RS.sub,SF.sub,CF.sub,csub,Anc.sub,List.map,Zf,xL,xM,Nat.reduceAdd,xD,xE,xT,xU,xC,xN,zCF,ldSF,Zk,rTx,Zs,ZG,rInt,rOp,rCmd,ZH,ZaJ,ZQ,ZA] at hS
  generalize τ 61=v61 at hS
  refine Zi (Zb (wp_seq ?_))
  refine Za hS (qg 5 104 r1 r1 (qa 104 r1 r1 qZ)) hB [76,51,50,49,13,9,8,7,6,5,4] [104,102,101,54,53,52,51,50,0] rfl rfl fun a w F hS=>Zb ?_
  refine Zd hS rfl (fun hc8=>?_) (fun hc8=>?_)
  ·skip
   have hrd:(Go.Gm.nth (Zn o g) i).reads=true:=hc8
   have kE:oe ++ [(fun s:ZY=>ZS.whole s.t) (Go.Gm.nth (Zn o g) i)] = ZdQ ((Zn o g).take (i+1)):=ZfQ (f:=fun s:ZY=>!s.just && s.reads) (m:=fun s:ZY=>ZS.whole s.t) hoe hio (by simp [hj,hrd])
   refine Zc hS (qM rfl rfl (qg 0 104 r1 r1 (qf (oL true 3 104 .adr) r1 r1 (qf (oB [(0,.tmp 79)] [.int .i64 0,.bool false,.slice none 0 0] [(0,3)] (.agg rfl .t (by kernel_rfl) (by kernel_rfl) .nil)) r1 qz (qf (Zdm (p:=.agg [.int .i64 (Go.Gm.nth (Zn o g) i).t.id,.bool (Go.Gm.nth (Zn o g) i).t.done,.sl rOp (Go.Gm.nth (Zn o g) i).t.ops]) Tryz.underlying109 (.pagg .t)) r1 qz (qf (Zh (sz:=1) (zs:=[.nilIface]) (r:=[(0,.tmp 81)]) (l:=[_]) Tryz.underlying60 (by kernel_rfl) (by kernel_rfl) (by kernel_rfl) (by kernel_rfl) rfl rfl (.one rfl .t ZdB (by kernel_rfl) .nil) rfl) r1 qz (qf (o_append (sz:=1) (bs:=16) 54 (.mk' Tryz.underlying60 (by kernel_rfl) (by kernel_rfl)) (by intro x;rfl) .is (.arr (l':=[ZS.whole (Go.Gm.nth (Zn o g) i).t]) .t) (by simp only [List.length_append,List.length_cons,List.length_nil];omega) (by decide)) ⟨rfl,rfl,trivial⟩ ⟨rfl,trivial⟩ (qN rfl rfl qZ)))))))) hB [51,50,49,9,8,7,6,5,4] [104,102,101,54,53,52,51,50,0] (fun _=>rfl) (fun _=>rfl) fun τ a w F hS=>?_
   try dsimp only [RS.sub,SF.sub,CF.sub,csub,Anc.sub,List.map,Zf,xL,xM,Nat.reduceAdd,xD,xE,xT,xU,xC,xN,zCF,ldSF,Zk,rTx,Zs,ZG,rInt,rOp,rCmd,ZH,ZaJ,ZQ,ZA] at hS
   generalize τ 83=v83 at hS
   refine Zi (Zb ?_)
   refine Za hS (qp r1 (qM rfl rfl qZ)) hB [51,50,49,9,8,7,6,5,4] [104,102,101,54,53,52,51,50,0] rfl rfl fun a w F hS=>Zb ?_
   replace hS:=hS.ent (i:=51) (s':=.pv (.int .i64 ((i+1:Nat):Int))) rfl (.int (Ze (by omega)))
   obtain ⟨F,hS⟩:=hS.nm [50,49,6,5,4,9,8,7,51] [102,101,51,50,0,54,53,52] rfl rfl
   exact ⟨((i+1),_,_,_,_,_,_),F,⟨by omega,⟨kC,kD,kE⟩⟩,hS,by omega⟩
  have hrd:(Go.Gm.nth (Zn o g) i).reads=false:=hc8
  have kE:oe=ZdQ ((Zn o g).take (i+1)):=Zgn (f:=fun s:ZY=>!s.just && s.reads) (m:=fun s:ZY=>ZS.whole s.t) hoe hio (by simp [hj,hrd])
  refine wp_skip (Zi (Zb ?_))
  refine Za hS (qp r1 (qM rfl rfl qZ)) hB [51,50,49,9,8,7,6,5,4] [104,102,101,54,53,52,51,50,0] rfl rfl fun a w F hS=>Zb ?_
  replace hS:=hS.ent (i:=51) (s':=.pv (.int .i64 ((i+1:Nat):Int))) rfl (.int (Ze (by omega)))
  obtain ⟨F,hS⟩:=hS.nm [50,49,6,5,4,9,8,7,51] [102,101,51,50,0,54,53,52] rfl rfl
  exact ⟨((i+1),_,_,_,_,_,_),F,⟨by omega,⟨kC,kD,kE⟩⟩,hS,by omega⟩
 have hil:i=(Zn o g).length:=by simp at hc4;omega
 have hqc:oc=ZeQ (Zn o g):=by rw [hoc,hil,List.take_length]
 have hqd:od=ZeW (Zn o g):=by rw [hod,hil,List.take_length]
 have hqe:oe=ZdQ (Zn o g):=by rw [hoe,hil,List.take_length]
 subst hqc
 subst hqd
 subst hqe
 refine wp_exit (Zj (Zj (Zp (Zb (wp_seq ?_)))))
 obtain ⟨F,hS⟩:=hS.give 50 5 rfl rfl
 obtain ⟨F,hS⟩:=hS.nm [52,51,50,49,9,8,7,6,5,4] [102,101,54,53,52,51,0] rfl rfl
 obtain ⟨F,hS⟩:=hS.give 51 6 rfl rfl
 obtain ⟨F,hS⟩:=hS.nm [52,51,50,49,9,8,7,6,5,4] [102,101,54,53,52,0] rfl rfl
 obtain ⟨F,hS⟩:=hS.give 52 7 rfl rfl
 obtain ⟨F,hS⟩:=hS.nm [52,51,50,49,9,8,7,6,5,4] [102,101,54,53,0] rfl rfl
 obtain ⟨F,hS⟩:=hS.give 53 8 rfl rfl
 obtain ⟨F,hS⟩:=hS.nm [52,51,50,49,9,8,7,6,5,4] [102,101,54,0] rfl rfl
 obtain ⟨F,hS⟩:=hS.give 54 9 rfl rfl
 obtain ⟨F,hS⟩:=hS.nm [52,51,50,49,9,8,7,6,5,4] [102,101,0] rfl rfl
 refine Za hS (qM rfl rfl (qM rfl rfl (qM rfl rfl (qM rfl rfl (qM rfl rfl (qf (Zh (sz:=1) (zs:=[.slice none 0 0]) (r:=[(0,.tmp 85),(1,.tmp 86),(2,.tmp 87),(3,.tmp 88),(4,.tmp 89)]) (l:=[_,_,_,_,_]) Tryz.underlying171 (by kernel_rfl) (by kernel_rfl) (by kernel_rfl) (by kernel_rfl) rfl rfl (.one rfl .t one_sl (by kernel_rfl) (.one rfl .t one_sl (by kernel_rfl) (.one rfl .t one_sl (by kernel_rfl) (.one rfl .t one_sl (by kernel_rfl) (.one rfl .t one_sl (by kernel_rfl) .nil))))) rfl) r5 qz (qf (oP (ZoP [ZcB (Zn g o),Zet (Zn g o),ZeQ (Zn o g),ZeW (Zn o g),ZdQ (Zn o g)] (by have h9:=Zdl g o;unfold Zas at h9;omega) (by simp)) Tryz.func80 (Args.one (.conv .t (Ent.arrSl (R:=ZaJ) (l:=[ZcB (Zn g o),Zet (Zn g o),ZeQ (Zn o g),ZeW (Zn o g),ZdQ (Zn o g)]) rfl)))) r1 qz (qN rfl rfl qZ)))))))) hB [4] [102,101,0] rfl rfl fun a w F hS=>Zb (wp_ret ?_)
 refine Zq hfr hS rfl rfl rfl .refl
theorem Zoz (t:TxD):FnP Tryz.prog 242 [.agg (rTx t)] (.agg (rTx t)):=by
 refine FnP.mk Tryz.func242 rfl Tryz.ntmps242 rfl ?_
 intro B a w F hB hfr hS
 refine wp_seq ?_
 refine Zc hS (qx 101 r1 (qf (oH [.int .i64 0,.bool false,.slice none 0 0] 102) trivial qz qZ)) hB [2,1] [102,101,0] (fun _=>rfl) (fun _=>rfl) fun τ a w F hS=>?_
 try dsimp only [RS.sub,SF.sub,CF.sub,csub,Anc.sub,List.map,zCF,Zk,rTx,Zs,ZG,rInt,rOp,rCmd,ZH,ZaJ,ZQ,ZA] at hS
 generalize τ 1=v1 at hS
 generalize τ 2=v2 at hS
 refine Zb (wp_seq ?_)
 refine Za hS (qg 0 101 r1 r1 (qf (oL true 3 101 .adr) r1 r1 (qs 3 102 r2 r1 qZ))) hB [2] [102,101,0] rfl rfl fun a w F hS=>Zb (wp_ret ?_)
 refine ZI hfr hS rfl (.cl 102 true 3 rfl rfl .nil) (.one (.aggU rfl rfl))
theorem ZoE (t:TxD) (b:Bool):FnP Tryz.prog 241 [.agg [.int .i64 t.id,.bool t.done,.sl rOp t.ops,.bool b]] (.agg (rTx t)):=by
 refine FnP.mk Tryz.func241 rfl Tryz.ntmps241 rfl ?_
 intro B a w F hB hfr hS
 refine wp_seq ?_
 refine Zc hS (qx 101 r1 (qf (oH [.int .i64 0,.bool false,.slice none 0 0] 102) trivial qz qZ)) hB [2,1] [102,101,0] (fun _=>rfl) (fun _=>rfl) fun τ a w F hS=>?_
 try dsimp only [RS.sub,SF.sub,CF.sub,csub,Anc.sub,List.map,zCF,Zk,rTx,Zs,ZG,rInt,rOp,rCmd,ZH,ZaJ,ZQ,ZA] at hS
 generalize τ 1=v1 at hS
 generalize τ 2=v2 at hS
 refine Zb (wp_seq ?_)
 refine Za hS (qg 0 101 r1 r1 (qf (oL true 3 101 .adr) r1 r1 (qs 3 102 r2 r1 qZ))) hB [2] [102,101,0] rfl rfl fun a w F hS=>Zb (wp_ret ?_)
 refine ZI hfr hS rfl (.cl 102 true 3 rfl rfl .nil) (.one (.aggU rfl rfl))
theorem ZnY (t:TxD):FnP Tryz.prog 243 [.agg (rTx t)] (.agg (rTx t)):=by
 refine FnP.mk Tryz.func243 rfl Tryz.ntmps243 rfl ?_
 intro B a w F hB hfr hS
 refine wp_seq ?_
 refine Zc hS (qx 101 r1 (qf (oH [.int .i64 0,.bool false,.slice none 0 0] 102) trivial qz qZ)) hB [2,1] [102,101,0] (fun _=>rfl) (fun _=>rfl) fun τ a w F hS=>?_
 try dsimp only [RS.sub,SF.sub,CF.sub,csub,Anc.sub,List.map,zCF,Zk,rTx,Zs,ZG,rInt,rOp,rCmd,ZH,ZaJ,ZQ,ZA] at hS
 generalize τ 1=v1 at hS
 generalize τ 2=v2 at hS
 refine Zb (wp_seq ?_)
 refine Za hS (qg 0 101 r1 r1 (qf (oL true 3 101 .adr) r1 r1 (qs 3 102 r2 r1 qZ))) hB [2] [102,101,0] rfl rfl fun a w F hS=>Zb (wp_ret ?_)
 refine ZI hfr hS rfl (.cl 102 true 3 rfl rfl .nil) (.one (.aggU rfl rfl))
theorem Zlm (t:TxD) (hl:t.ops.length≤1000):FnP Tryz.prog 32 [.ifc 108 (.agg (rTx t))] (.agg (rCmd (Zcq (.away t)))):=by
 refine FnP.mk Tryz.func32 rfl Tryz.ntmps32 rfl ?_
 intro B a w F hB hfr hS
 refine wp_seq ?_
 refine Zc hS (qf (oH [.int .i64 0,.int .i64 0,.bool false,.slice none 0 0,.int .i64 0,.slice none 0 0,.int .i64 0,.int .i64 0,.int .i64 0,.int .i64 0] 101) trivial qz qZ) hB [2,0] [101,0] (fun _=>rfl) (fun _=>rfl) fun τ a w F hS=>?_
 try dsimp only [RS.sub,SF.sub,CF.sub,csub,Anc.sub,List.map,zCF,Zk,rTx,Zs,ZG,rInt,rOp,rCmd,ZH,ZaJ,ZQ,ZA,Zcq,ZeD,ZbJ,ZbK,bareT,zeroC,zeroT,rCmd] at hS
 generalize τ 2=v2 at hS
 refine Zb (wp_seq ?_)
 refine Zc hS (qM rfl rfl (qf (Zhh .t (Zoz t) Tryz.underlying108 (by kernel_rfl) Tryz.func242 rfl (by kernel_rfl)) r1 qz (qf (oH [.int .i64 0,.bool false,.slice none 0 0] 102) trivial qz (qf (oA 3 102 .same (.conv .t .agg)) r2 r1 qZ)))) hB [3,2,0] [102,101,0] (fun _=>rfl) (fun _=>rfl) fun τ a w F hS=>?_
 try dsimp only [RS.sub,SF.sub,CF.sub,csub,Anc.sub,List.map,Zf,xL,xM,Nat.reduceAdd,xD,xE,xT,xU,xC,xN,zCF,Zk,rTx,Zs,ZG,rInt,rOp,rCmd,ZH,ZaJ,ZQ,ZA,Zcq,ZeD,ZbJ,ZbK,bareT,zeroC,zeroT,rCmd] at hS
 generalize τ 3=v3 at hS
 refine Zb (wp_seq ?_)
 replace hS:=hS.fresh 103 rfl
 refine Zc hS (qg 2 102 r1 r1 (qa 102 r1 r1 (qf (ZaM 103 (Zce t.ops (by omega)) Tryz.func49 rfl (by kernel_rfl) (Args.one .t) ZaC) r1 r1 (qg 2 102 r1 r1 (qf (Zac 102 .adr (by kernel_rfl) (by kernel_rfl)) r2 r1 qZ))))) hB [3,2,0] [103,102,101,0] (fun _=>rfl) (fun _=>rfl) fun τ a w F hS=>?_
 try dsimp only [RS.sub,SF.sub,CF.sub,csub,Anc.sub,List.map,Zf,xL,xM,Nat.reduceAdd,xD,xE,xT,xU,xC,xN,zCF,ldSF,Zk,rTx,Zs,ZG,rInt,rOp,rCmd,ZH,ZaJ,ZQ,ZA,Zcq,ZeD,ZbJ,ZbK,bareT,zeroC,zeroT,rCmd] at hS
 generalize τ 10=v10 at hS
 obtain ⟨F,hS⟩:=hS.giveCell 103 102 2 rfl rfl rfl rfl rfl
 try dsimp only [List.set] at hS
 obtain ⟨F,hS⟩:=hS.nm [3,2,0] [102,101,0] rfl rfl
 refine Zb (wp_seq (wp_seq ?_))
 refine Za hS (qM rfl rfl qZ) hB [12,3,2] [102,101,0] rfl rfl fun a w F hS=>Zb (wp_block (wp_seq ?_))
 refine Za hS (qf (Zfo Tryz.underlying108 .t) r1 qz (qf (o_extract .t rfl) r1 qz (qf (o_extract .t rfl) r1 qz qZ))) hB [15,14,12,3,2] [102,101,0] rfl rfl fun a w F hS=>Zb ?_
 refine Zd hS rfl (fun hc0=>?_) (fun hc0=>?_)
 ·skip
  refine wp_seq ?_
  refine Zc hS (qf (oH [.int .i64 0,.bool false,.slice none 0 0] 104) trivial qz (qf (oA 3 104 .same (.conv .t .agg)) r2 r1 qZ)) hB [3,2] [104,102,101,0] (fun _=>rfl) (fun _=>rfl) fun τ a w F hS=>?_
  try dsimp only [RS.sub,SF.sub,CF.sub,csub,Anc.sub,List.map,Zf,xL,xM,Nat.reduceAdd,xD,xE,xT,xU,xC,xN,zCF,Zk,rTx,Zs,ZG,rInt,rOp,rCmd,ZH,ZaJ,ZQ,ZA,Zcq,ZeD,ZbJ,ZbK,bareT,zeroC,zeroT,rCmd] at hS
  generalize τ 4=v4 at hS
  refine Zb (wp_seq ?_)
  refine Za hS (qg 0 102 r1 r1 (qa 102 r1 r1 (qf (oB [(0,_),(4,.tmp 17)] [.int .i64 0,.int .i64 0,.bool false,.slice none 0 0,.int .i64 0,.slice none 0 0,.int .i64 0,.int .i64 0,.int .i64 0,.int .i64 0] [(0,1),(1,3),(4,2),(6,1),(7,1),(8,1),(9,1)] (.one rfl qi one_int (by kernel_rfl) (.one rfl .t one_int (by kernel_rfl) .nil))) r1 qz (qs 10 101 r2 r1 qZ)))) hB [3,2] [104,102,101,0] rfl rfl fun a w F hS=>Zb (wp_ret (Zl (Zg ?_)))
  refine ZI hfr hS rfl (.cl 101 true 10 rfl rfl .nil) (.one (.aggLe rfl (by refine ⟨?_,?_,?_,?_,?_,?_,?_,?_,?_,?_,trivial⟩ <;> first | exact PVLe.refl | exact PVLe.nilSl)))
 cases hc0
theorem ZlY (t:TxD) (b:Bool) (hl:t.ops.length≤1000):FnP Tryz.prog 32 [.ifc 106 (.agg [.int .i64 t.id,.bool t.done,.sl rOp t.ops,.bool b])] (.agg (rCmd (Zcq (.plain t b)))):=by
 refine FnP.mk Tryz.func32 rfl Tryz.ntmps32 rfl ?_
 intro B a w F hB hfr hS
 refine wp_seq ?_
 refine Zc hS (qf (oH [.int .i64 0,.int .i64 0,.bool false,.slice none 0 0,.int .i64 0,.slice none 0 0,.int .i64 0,.int .i64 0,.int .i64 0,.int .i64 0] 101) trivial qz qZ) hB [2,0] [101,0] (fun _=>rfl) (fun _=>rfl) fun τ a w F hS=>?_
 try dsimp only [RS.sub,SF.sub,CF.sub,csub,Anc.sub,List.map,zCF,Zk,rTx,Zs,ZG,rInt,rOp,rCmd,ZH,ZaJ,ZQ,ZA,Zcq,ZeD,ZbJ,ZbK,bareT,zeroC,zeroT,rCmd] at hS
 generalize τ 2=v2 at hS
 refine Zb (wp_seq ?_)
 refine Zc hS (qM rfl rfl (qf (Zhh .t (ZoE t b) Tryz.underlying106 (by kernel_rfl) Tryz.func241 rfl (by kernel_rfl)) r1 qz (qf (oH [.int .i64 0,.bool false,.slice none 0 0] 102) trivial qz (qf (oA 3 102 .same (.conv .t .agg)) r2 r1 qZ)))) hB [3,2,0] [102,101,0] (fun _=>rfl) (fun _=>rfl) fun τ a w F hS=>?_
 try dsimp only [RS.sub,SF.sub,CF.sub,csub,Anc.sub,List.map,Zf,xL,xM,Nat.reduceAdd,xD,xE,xT,xU,xC,xN,zCF,Zk,rTx,Zs,ZG,rInt,rOp,rCmd,ZH,ZaJ,ZQ,ZA,Zcq,ZeD,ZbJ,ZbK,bareT,zeroC,zeroT,rCmd] at hS
 generalize τ 3=v3 at hS
 refine Zb (wp_seq ?_)
 replace hS:=hS.fresh 103 rfl
 refine Zc hS (qg 2 102 r1 r1 (qa 102 r1 r1 (qf (ZaM 103 (Zce t.ops (by omega)) Tryz.func49 rfl (by kernel_rfl) (Args.one .t) ZaC) r1 r1 (qg 2 102 r1 r1 (qf (Zac 102 .adr (by kernel_rfl) (by kernel_rfl)) r2 r1 qZ))))) hB [3,2,0] [103,102,101,0] (fun _=>rfl) (fun _=>rfl) fun τ a w F hS=>?_
 try dsimp only [RS.sub,SF.sub,CF.sub,csub,Anc.sub,List.map,Zf,xL,xM,Nat.reduceAdd,xD,xE,xT,xU,xC,xN,zCF,ldSF,Zk,rTx,Zs,ZG,rInt,rOp,rCmd,ZH,ZaJ,ZQ,ZA,Zcq,ZeD,ZbJ,ZbK,bareT,zeroC,zeroT,rCmd] at hS
 generalize τ 10=v10 at hS
 obtain ⟨F,hS⟩:=hS.giveCell 103 102 2 rfl rfl rfl rfl rfl
 try dsimp only [List.set] at hS
 obtain ⟨F,hS⟩:=hS.nm [3,2,0] [102,101,0] rfl rfl
 refine Zb (wp_seq (wp_seq ?_))
 refine Za hS (qM rfl rfl qZ) hB [12,3,2] [102,101,0] rfl rfl fun a w F hS=>Zb (wp_block (wp_seq ?_))
 refine Za hS (qf (Zcu (zs:=[.int .i64 0,.bool false,.slice none 0 0]) Tryz.underlying108 (by kernel_rfl) (by rfl) .t) r1 qz (qf (o_extract .t rfl) r1 qz (qf (o_extract .t rfl) r1 qz qZ))) hB [15,14,12,3,2] [102,101,0] rfl rfl fun a w F hS=>Zb ?_
 refine Zd hS rfl (fun hc0=>?_) (fun hc0=>?_)
 ·skip
  cases hc0
 refine wp_seq ?_
 refine Za hS (qf (Zfo Tryz.underlying106 .t) r1 qz (qf (o_extract .t rfl) r1 qz (qf (o_extract .t rfl) r1 qz qZ))) hB [21,20,3,2] [102,101,0] rfl rfl fun a w F hS=>Zb ?_
 refine Zd hS rfl (fun hc1=>?_) (fun hc1=>?_)
 ·skip
  refine wp_seq ?_
  refine Zc hS (qf (oH [.int .i64 0,.bool false,.slice none 0 0,.bool false] 104) trivial qz (qf (oA 4 104 .same (.conv .t .agg)) r2 r1 qZ)) hB [5,3,2] [104,102,101,0] (fun _=>rfl) (fun _=>rfl) fun τ a w F hS=>?_
  try dsimp only [RS.sub,SF.sub,CF.sub,csub,Anc.sub,List.map,Zf,xL,xM,Nat.reduceAdd,xD,xE,xT,xU,xC,xN,zCF,Zk,rTx,Zs,ZG,rInt,rOp,rCmd,ZH,ZaJ,ZQ,ZA,Zcq,ZeD,ZbJ,ZbK,bareT,zeroC,zeroT,rCmd] at hS
  generalize τ 5=v5 at hS
  refine Zb (wp_seq (wp_seq ?_))
  refine Za hS (qg 3 104 r1 r1 (qa 104 r1 r1 (qf (o_not .t) r1 qz qZ))) hB [24,3,2] [104,102,101,0] rfl rfl fun a w F hS=>Zb ?_
  refine Zd hS rfl (fun hc2=>?_) (fun hc2=>?_)
  ·skip
   have hbb:b=false:=by simpa using hc2
   subst hbb
   refine wp_seq ?_
   refine Za hS (qe 3 102 r1 r1 (qf (oP (ZhI t (by omega)) Tryz.func47 (Args.one (.pagg .t))) r1 qz (qf (oB [(0,_),(1,.tmp 26)] [.int .i64 0,.int .i64 0,.bool false,.slice none 0 0,.int .i64 0,.slice none 0 0,.int .i64 0,.int .i64 0,.int .i64 0,.int .i64 0] [(0,1),(1,3),(4,2),(6,1),(7,1),(8,1),(9,1)] (.one rfl qi one_int (by kernel_rfl) (.agg rfl (.conv .t .agg) (by kernel_rfl) (by kernel_rfl) .nil))) r1 qz (qs 10 101 r2 r1 qZ)))) hB [3,2] [104,102,101,0] rfl rfl fun a w F hS=>Zb (wp_ret (Zg (Zl (Zg ?_))))
   refine ZI hfr hS rfl (.cl 101 true 10 rfl rfl .nil) (.one (.aggLe rfl (by refine ⟨?_,?_,?_,?_,?_,?_,?_,?_,?_,?_,trivial⟩ <;> first | exact PVLe.refl | exact PVLe.nilSl)))
  have hbb:b=true:=by simpa using hc2
  subst hbb
  refine wp_skip (Zb (wp_seq ?_))
  refine Za hS (qe 3 102 r1 r1 (qf (oP (ZhI t (by omega)) Tryz.func47 (Args.one (.pagg .t))) r1 qz (qf (oB [(0,_),(1,.tmp 29)] [.int .i64 0,.int .i64 0,.bool false,.slice none 0 0,.int .i64 0,.slice none 0 0,.int .i64 0,.int .i64 0,.int .i64 0,.int .i64 0] [(0,1),(1,3),(4,2),(6,1),(7,1),(8,1),(9,1)] (.one rfl qi one_int (by kernel_rfl) (.agg rfl (.conv .t .agg) (by kernel_rfl) (by kernel_rfl) .nil))) r1 qz (qs 10 101 r2 r1 qZ)))) hB [3,2] [104,102,101,0] rfl rfl fun a w F hS=>Zb (wp_ret (Zl (Zg ?_)))
  refine ZI hfr hS rfl (.cl 101 true 10 rfl rfl .nil) (.one (.aggLe rfl (by refine ⟨?_,?_,?_,?_,?_,?_,?_,?_,?_,?_,trivial⟩ <;> first | exact PVLe.refl | exact PVLe.nilSl)))
 cases hc1
theorem Zlj (t:TxD) (hl:t.ops.length≤1000):FnP Tryz.prog 32 [.ifc 109 (.agg (rTx t))] (.agg (rCmd (Zcq (.whole t)))):=by
 refine FnP.mk Tryz.func32 rfl Tryz.ntmps32 rfl ?_
 intro B a w F hB hfr hS
 refine wp_seq ?_
 refine Zc hS (qf (oH [.int .i64 0,.int .i64 0,.bool false,.slice none 0 0,.int .i64 0,.slice none 0 0,.int .i64 0,.int .i64 0,.int .i64 0,.int .i64 0] 101) trivial qz qZ) hB [2,0] [101,0] (fun _=>rfl) (fun _=>rfl) fun τ a w F hS=>?_
 try dsimp only [RS.sub,SF.sub,CF.sub,csub,Anc.sub,List.map,zCF,Zk,rTx,Zs,ZG,rInt,rOp,rCmd,ZH,ZaJ,ZQ,ZA,Zcq,ZeD,ZbJ,ZbK,bareT,zeroC,zeroT,rCmd] at hS
 generalize τ 2=v2 at hS
 refine Zb (wp_seq ?_)
 refine Zc hS (qM rfl rfl (qf (Zhh .t (ZnY t) Tryz.underlying109 (by kernel_rfl) Tryz.func243 rfl (by kernel_rfl)) r1 qz (qf (oH [.int .i64 0,.bool false,.slice none 0 0] 102) trivial qz (qf (oA 3 102 .same (.conv .t .agg)) r2 r1 qZ)))) hB [3,2,0] [102,101,0] (fun _=>rfl) (fun _=>rfl) fun τ a w F hS=>?_
 try dsimp only [RS.sub,SF.sub,CF.sub,csub,Anc.sub,List.map,Zf,xL,xM,Nat.reduceAdd,xD,xE,xT,xU,xC,xN,zCF,Zk,rTx,Zs,ZG,rInt,rOp,rCmd,ZH,ZaJ,ZQ,ZA,Zcq,ZeD,ZbJ,ZbK,bareT,zeroC,zeroT,rCmd] at hS
 generalize τ 3=v3 at hS
 refine Zb (wp_seq ?_)
 replace hS:=hS.fresh 103 rfl
 refine Zc hS (qg 2 102 r1 r1 (qa 102 r1 r1 (qf (ZaM 103 (Zce t.ops (by omega)) Tryz.func49 rfl (by kernel_rfl) (Args.one .t) ZaC) r1 r1 (qg 2 102 r1 r1 (qf (Zac 102 .adr (by kernel_rfl) (by kernel_rfl)) r2 r1 qZ))))) hB [3,2,0] [103,102,101,0] (fun _=>rfl) (fun _=>rfl) fun τ a w F hS=>?_
 try dsimp only [RS.sub,SF.sub,CF.sub,csub,Anc.sub,List.map,Zf,xL,xM,Nat.reduceAdd,xD,xE,xT,xU,xC,xN,zCF,ldSF,Zk,rTx,Zs,ZG,rInt,rOp,rCmd,ZH,ZaJ,ZQ,ZA,Zcq,ZeD,ZbJ,ZbK,bareT,zeroC,zeroT,rCmd] at hS
 generalize τ 10=v10 at hS
 obtain ⟨F,hS⟩:=hS.giveCell 103 102 2 rfl rfl rfl rfl rfl
 try dsimp only [List.set] at hS
 obtain ⟨F,hS⟩:=hS.nm [3,2,0] [102,101,0] rfl rfl
 refine Zb (wp_seq (wp_seq ?_))
 refine Za hS (qM rfl rfl qZ) hB [12,3,2] [102,101,0] rfl rfl fun a w F hS=>Zb (wp_block (wp_seq ?_))
 refine Za hS (qf (Zcu (zs:=[.int .i64 0,.bool false,.slice none 0 0]) Tryz.underlying108 (by kernel_rfl) (by rfl) .t) r1 qz (qf (o_extract .t rfl) r1 qz (qf (o_extract .t rfl) r1 qz qZ))) hB [15,14,12,3,2] [102,101,0] rfl rfl fun a w F hS=>Zb ?_
 refine Zd hS rfl (fun hc0=>?_) (fun hc0=>?_)
 ·skip
  cases hc0
 refine wp_seq ?_
 refine Za hS (qf (Zcu (zs:=[.int .i64 0,.bool false,.slice none 0 0,.bool false]) Tryz.underlying106 (by kernel_rfl) (by rfl) .t) r1 qz (qf (o_extract .t rfl) r1 qz (qf (o_extract .t rfl) r1 qz qZ))) hB [21,20,3,2] [102,101,0] rfl rfl fun a w F hS=>Zb ?_
 refine Zd hS rfl (fun hc1=>?_) (fun hc1=>?_)
 ·skip
  cases hc1
 refine wp_skip (Zi (Zb (wp_seq ?_)))
 refine Za hS (qe 3 102 r1 r1 (qf (oB [(0,_),(1,.tmp 31)] [.int .i64 0,.int .i64 0,.bool false,.slice none 0 0,.int .i64 0,.slice none 0 0,.int .i64 0,.int .i64 0,.int .i64 0,.int .i64 0] [(0,1),(1,3),(4,2),(6,1),(7,1),(8,1),(9,1)] (.one rfl qi one_int (by kernel_rfl) (.agg rfl .t (by kernel_rfl) (by kernel_rfl) .nil))) r1 qz (qs 10 101 r2 r1 qZ))) hB [2] [102,101,0] rfl rfl fun a w F hS=>Zb (wp_ret ?_)
 refine ZI hfr hS rfl (.cl 101 true 10 rfl rfl .nil) (.one (.aggLe rfl (by refine ⟨?_,?_,?_,?_,?_,?_,?_,?_,?_,?_,trivial⟩ <;> first | exact PVLe.refl | exact PVLe.nilSl)))
def ZrE:ZS→List OpD
 | .none=>[]
 | .away t=>t.ops
 | .plain t _=>t.ops
 | .whole t=>t.ops
theorem Zmp (s:ZS) (hn:s ≠ .none) (hl:(ZrE s).length≤1000):FnP Tryz.prog 32 [ZA s] (.agg (rCmd (Zcq s))):=by
 cases s with
 | none=>exact absurd rfl hn
 | away t=>exact Zlm t hl
 | plain t b=>exact ZlY t b hl
 | whole t=>exact Zlj t hl
theorem Zkr (g:HistD) (hs:ZaY g):FnP Tryz.prog 39 [.agg (Zk g)] (.agg (Zk g)):=by
 refine FnP.mk Tryz.func39 rfl Tryz.ntmps39 rfl ?_
 intro B a w F hB hfr hS
 have hsl:=hs.1.1
 have hso:=hs.2.1
 refine wp_seq ?_
 refine Zc hS (qx 101 r1 (qf (oH [.slice none 0 0,.slice none 0 0] 102) trivial qz qZ)) hB [2,1] [102,101,0] (fun _=>rfl) (fun _=>rfl) fun τ a w F hS=>?_
 try dsimp only [RS.sub,SF.sub,CF.sub,csub,Anc.sub,List.map,zCF,Zk,rTx,Zs,ZG,rInt,rOp,rCmd,ZH,ZaJ,ZQ,ZA] at hS
 generalize τ 1=v1 at hS
 generalize τ 2=v2 at hS
 refine Zb (wp_seq ?_)
 refine Zc hS (qf (oH [.slice none 0 0,.slice none 0 0] 103) trivial qz qZ) hB [3,2,1] [103,102,101,0] (fun _=>rfl) (fun _=>rfl) fun τ a w F hS=>?_
 try dsimp only [RS.sub,SF.sub,CF.sub,csub,Anc.sub,List.map,zCF,Zk,rTx,Zs,ZG,rInt,rOp,rCmd,ZH,ZaJ,ZQ,ZA] at hS
 generalize τ 3=v3 at hS
 refine Zb (wp_seq (wp_seq ?_))
 refine Za hS (qg 0 101 r1 r1 (qa 101 r1 r1 (qu Tryz.underlying22 r1 (qJ qZ)))) hB [11,10,9,3,2,1] [103,102,101,0] rfl rfl fun a w F hS=>Zb (wp_block ?_)
 replace hS:=hS.fresh 50 rfl
 replace hS:=hS.turn 50 rfl (Zav (T:=40) (sz:=3) (R:=rTx))
 refine Zo (σ:=(Nat)×(Value)×(List TxD)) [1,2,3,9,10] [0,101,102] (fun s=>[(11,.pv (.int .i64 (s.1:Int)))]) (fun s=>[(103,.pt (.val v3) 25 [.pv (.is s.2.1),.pv (.is (.slice none 0 0))]),(50,.ob (.val s.2.1) (Zx 40 3 rTx s.2.2))]) (fun s=>s.1≤g.txs.length∧(s.2.2=g.txs.take s.1)) (fun s=>g.txs.length - s.1) ((0),(.slice none 0 0),([])) hS ⟨rfl,rfl,rfl,rfl,rfl,rfl,trivial⟩ ⟨rfl,rfl,rfl,rfl,rfl,trivial⟩ ⟨Nat.zero_le _,rfl⟩ ?_
 clear hS;intro s a w F hC hS
 obtain ⟨i,va,oa⟩:=s
 try dsimp only at hC
 obtain ⟨F,hS⟩:=hS.nm [11,10,9,3,2,1] [103,102,101,50,0] rfl rfl
 try dsimp only at hS
 obtain ⟨hi,hq⟩:=hC
 have hol:oa.length≤i:=by rw [hq,List.length_take];omega
 refine wp_seq ?_
 refine Za hS (qL r2) hB [12,11,10,9,3,2,1] [103,102,101,50,0] rfl rfl fun a w F hS=>Zb (wp_seq ?_)
 refine Zd hS rfl (fun hc0=>?_) (fun hc0=>?_)
 ·skip
  have hil:i<g.txs.length:=by simp at hc0;omega
  have hio:=hil
  refine wp_skip (Zb (wp_seq (wp_block (wp_seq ?_))))
  refine Zc hS (qy 3 Tryz.underlying22 r2 (qf (oR true 3 .t) r1 qz (qf (oH [.int .i64 0,.bool false,.slice none 0 0] 104) trivial qz (qS 3 104 r2 r1 qZ)))) hB [11,10,9,5,3,2,1] [104,103,102,101,50,0] (fun _=>rfl) (fun _=>rfl) fun τ a w F hS=>?_
  try dsimp only [RS.sub,SF.sub,CF.sub,csub,Anc.sub,List.map,Zf,xL,xM,Nat.reduceAdd,xD,xE,xT,xU,xC,xN,zCF,ldSF,Zk,rTx,Zs,ZG,rInt,rOp,rCmd,ZH,ZaJ,ZQ,ZA] at hS
  generalize τ 5=v5 at hS
  try simp only [Int.toNat_natCast] at hS
  refine Zb (wp_seq ?_)
  replace hS:=hS.fresh 105 rfl
  refine Zc hS (qg 2 104 r1 r1 (qa 104 r1 r1 (qf (ZaM 105 (Zce (Go.Gm.nth g.txs i).ops (by have:=hs.1.at hio;omega)) Tryz.func49 rfl (by kernel_rfl) (Args.one .t) ZaC) r1 r1 (qg 2 104 r1 r1 (qf (Zac 104 .adr (by kernel_rfl) (by kernel_rfl)) r2 r1 qZ))))) hB [11,10,9,5,3,2,1] [105,104,103,102,101,50,0] (fun _=>rfl) (fun _=>rfl) fun τ a w F hS=>?_
  try dsimp only [RS.sub,SF.sub,CF.sub,csub,Anc.sub,List.map,Zf,xL,xM,Nat.reduceAdd,xD,xE,xT,xU,xC,xN,zCF,ldSF,Zk,rTx,Zs,ZG,rInt,rOp,rCmd,ZH,ZaJ,ZQ,ZA] at hS
  generalize τ 17=v17 at hS
  obtain ⟨F,hS⟩:=hS.giveCell 105 104 2 rfl rfl rfl rfl rfl
  try dsimp only [List.set] at hS
  obtain ⟨F,hS⟩:=hS.nm [11,10,9,5,3,2,1] [104,103,102,101,50,0] rfl rfl
  refine Zb ?_
  refine Zc hS (qg 0 103 r1 r1 (qa 103 r1 r1 (qe 3 104 r1 r1 (qf (Zh (sz:=3) (zs:=[.int .i64 0,.bool false,.slice none 0 0]) (r:=[(0,.tmp 21)]) (l:=[_,_,_]) Tryz.underlying22 (by kernel_rfl) (by kernel_rfl) (by kernel_rfl) (by kernel_rfl) rfl rfl (.agg rfl .t (by kernel_rfl) (by kernel_rfl) .nil) rfl) r1 qz (qf (o_append (sz:=3) (bs:=40) 50 (.mk' Tryz.underlying22 (by kernel_rfl) (by kernel_rfl)) (by intro x;rfl) .is (.arr (l':=[(Go.Gm.nth g.txs i)]) .t) (by simp only [List.length_append,List.length_cons,List.length_nil];omega) (by decide)) ⟨rfl,rfl,trivial⟩ ⟨rfl,trivial⟩ (qg 0 103 r1 r1 (qf (Zac 103 .adr (by kernel_rfl) (by kernel_rfl)) r2 r1 qZ))))))) hB [11,10,9,3,2,1] [104,103,102,101,50,0] (fun _=>rfl) (fun _=>rfl) fun τ a w F hS=>?_
  try dsimp only [RS.sub,SF.sub,CF.sub,csub,Anc.sub,List.map,Zf,xL,xM,Nat.reduceAdd,xD,xE,xT,xU,xC,xN,zCF,ldSF,Zk,rTx,Zs,ZG,rInt,rOp,rCmd,ZH,ZaJ,ZQ,ZA] at hS
  generalize τ 23=v23 at hS
  refine Zi (Zb ?_)
  refine Za hS (qp r1 (qM rfl rfl qZ)) hB [11,10,9,3,2,1] [104,103,102,101,50,0] rfl rfl fun a w F hS=>Zb ?_
  replace hS:=hS.ent (i:=11) (s':=.pv (.int .i64 ((i+1:Nat):Int))) rfl (.int (Ze (by omega)))
  obtain ⟨F,hS⟩:=hS.nm [10,9,3,2,1,11] [102,101,0,50,103] rfl rfl
  exact ⟨((i+1),_,_),F,⟨by omega,(by rw [ZD hil,← hq])⟩,hS,by omega⟩
 have hil:i=g.txs.length:=by simp at hc0;omega
 have hqa:oa=g.txs:=by rw [hq,hil,List.take_length]
 subst hqa
 refine wp_exit (Zj (Zj (Zp (Zb (wp_seq (wp_seq ?_))))))
 refine Za hS (qg 1 101 r1 r1 (qa 101 r1 r1 (qu Tryz.underlying23 r1 (qJ qZ)))) hB [29,28,27,3,2] [103,102,101,50,0] rfl rfl fun a w F hS=>Zb (wp_block ?_)
 replace hS:=hS.fresh 51 rfl
 replace hS:=hS.turn 51 rfl (Zav (T:=43) (sz:=2) (R:=Zs))
 refine Zo (σ:=(Nat)×(Value)×(List OrdD)) [2,3,27,28] [0,50,101,102] (fun s=>[(29,.pv (.int .i64 (s.1:Int)))]) (fun s=>[(103,.pt (.val v3) 25 [.pv (.is va),.pv (.is s.2.1)]),(51,.ob (.val s.2.1) (Zx 43 2 Zs s.2.2))]) (fun s=>s.1≤g.orders.length∧(s.2.2=g.orders.take s.1)) (fun s=>g.orders.length - s.1) ((0),(.slice none 0 0),([])) hS ⟨rfl,rfl,rfl,rfl,rfl,trivial⟩ ⟨rfl,rfl,rfl,rfl,rfl,rfl,trivial⟩ ⟨Nat.zero_le _,rfl⟩ ?_
 clear hS;intro s a w F hC hS
 obtain ⟨i,vb,ob⟩:=s
 try dsimp only at hC
 obtain ⟨F,hS⟩:=hS.nm [29,28,27,3,2] [103,102,101,51,50,0] rfl rfl
 try dsimp only at hS
 obtain ⟨hi,hq⟩:=hC
 have hol:ob.length≤i:=by rw [hq,List.length_take];omega
 refine wp_seq ?_
 refine Za hS (qL r2) hB [30,29,28,27,3,2] [103,102,101,51,50,0] rfl rfl fun a w F hS=>Zb (wp_seq ?_)
 refine Zd hS rfl (fun hc1=>?_) (fun hc1=>?_)
 ·skip
  have hil:i<g.orders.length:=by simp at hc1;omega
  have hio:=hil
  refine wp_skip (Zb (wp_seq (wp_block (wp_seq ?_))))
  refine Zc hS (qy 2 Tryz.underlying23 r2 (qf (oR true 2 .t) r1 qz (qf (oH [.int .i64 0,.slice none 0 0] 106) trivial qz (qS 2 106 r2 r1 qZ)))) hB [29,28,27,7,3,2] [106,103,102,101,51,50,0] (fun _=>rfl) (fun _=>rfl) fun τ a w F hS=>?_
  try dsimp only [RS.sub,SF.sub,CF.sub,csub,Anc.sub,List.map,Zf,xL,xM,Nat.reduceAdd,xD,xE,xT,xU,xC,xN,zCF,ldSF,Zk,rTx,Zs,ZG,rInt,rOp,rCmd,ZH,ZaJ,ZQ,ZA] at hS
  generalize τ 7=v7 at hS
  try simp only [Int.toNat_natCast] at hS
  refine Zb ?_
  refine ZcU hS (qg 1 103 r1 r1 (qa 103 r1 r1 (qg 0 106 r1 r1 (qa 106 r1 r1 (qg 1 106 r1 r1 (qa 106 r1 r1 (qf (oP (cloneIP_c (Go.Gm.nth g.orders i).txs (by have:=hs.2.at hio;omega)) Tryz.func82 (Args.one .t)) r1 qz (qf (oB [(0,.tmp 36),(1,.tmp 39)] [.int .i64 0,.slice none 0 0] [(0,1),(1,1)] (.one rfl .t one_int (by kernel_rfl) (.one rfl .t one_sl (by kernel_rfl) .nil))) r2 qz (qf (Zh (sz:=2) (zs:=[.int .i64 0,.slice none 0 0]) (r:=[(0,.tmp 40)]) (l:=[_,_]) Tryz.underlying23 (by kernel_rfl) (by kernel_rfl) (by kernel_rfl) (by kernel_rfl) rfl rfl (.agg rfl .t (by kernel_rfl) (by kernel_rfl) .nil) rfl) r1 qz (qf (o_append (sz:=2) (bs:=32) 51 (.mk' Tryz.underlying23 (by kernel_rfl) (by kernel_rfl)) (by intro x;rfl) .is (.arr (l':=[(Go.Gm.nth g.orders i)]) .t) (by simp only [List.length_append,List.length_cons,List.length_nil];omega) (by decide)) ⟨rfl,rfl,trivial⟩ ⟨rfl,trivial⟩ (qg 1 103 r1 r1 (qf (Zac 103 .adr (by kernel_rfl) (by kernel_rfl)) r2 r1 qZ)))))))))))) hB [29,28,27,3,2] [106,103,102,101,51,50,0] (fun _=>rfl) (fun _=>rfl) fun τ a w F hS=>?_
  try dsimp only [RS.sub,SF.sub,CF.sub,csub,Anc.sub,List.map,Zf,xL,xM,Nat.reduceAdd,xD,xE,xT,xU,xC,xN,zCF,ldSF,Zk,rTx,Zs,ZG,rInt,rOp,rCmd,ZH,ZaJ,ZQ,ZA] at hS
  generalize τ 42=v42 at hS
  refine Zi (Zb ?_)
  refine Za hS (qp r1 (qM rfl rfl qZ)) hB [29,28,27,3,2] [106,103,102,101,51,50,0] rfl rfl fun a w F hS=>Zb ?_
  replace hS:=hS.ent (i:=29) (s':=.pv (.int .i64 ((i+1:Nat):Int))) rfl (.int (Ze (by omega)))
  obtain ⟨F,hS⟩:=hS.nm [28,27,3,2,29] [102,101,50,0,51,103] rfl rfl
  exact ⟨((i+1),_,_),F,⟨by omega,(by rw [ZD hil,← hq])⟩,hS,by omega⟩
 have hil:i=g.orders.length:=by simp at hc1;omega
 have hqb:ob=g.orders:=by rw [hq,hil,List.take_length]
 subst hqb
 refine wp_exit (Zj (Zj (Zp (Zb (wp_seq ?_)))))
 obtain ⟨F,hS⟩:=hS.giveCell 50 103 0 rfl rfl rfl rfl rfl
 try dsimp only [List.set] at hS
 obtain ⟨F,hS⟩:=hS.nm [30,29,28,27,3,2] [103,102,101,51,0] rfl rfl
 obtain ⟨F,hS⟩:=hS.giveCell 51 103 1 rfl rfl rfl rfl rfl
 try dsimp only [List.set] at hS
 obtain ⟨F,hS⟩:=hS.nm [30,29,28,27,3,2] [103,102,101,0] rfl rfl
 refine Za hS (qe 2 103 r1 r1 (qs 2 102 r2 r1 qZ)) hB [2] [103,102,101,0] rfl rfl fun a w F hS=>Zb (wp_ret ?_)
 refine ZI hfr hS rfl (.cl 102 true 2 rfl rfl .nil) (.one (.aggU rfl rfl))
theorem Zdr (g:HistD) (c:CmdD) (hs:ZaY g) (hc:ZaO c):FnP Tryz.prog 25 [.agg (Zk g),.agg (rCmd c)] (.tup [.agg (Zk (ZN g c).1),.int .i64 (ZN g c).2]):=by
 refine FnP.mk Tryz.func25 rfl Tryz.ntmps25 rfl ?_
 intro B a w F hB hfr hS
 refine wp_seq ?_
 refine Zc hS (qx 101 r1 (qx 102 r1 (qf (oH [.slice none 0 0,.slice none 0 0] 103) trivial qz (qI qZ)))) hB [5,4,3,2] [103,102,101,0] (fun _=>rfl) (fun _=>rfl) fun τ a w F hS=>?_
 try dsimp only [RS.sub,SF.sub,CF.sub,csub,Anc.sub,List.map,zCF,Zk,rTx,Zs,ZG,rInt,rOp,rCmd] at hS
 generalize τ 2=v2 at hS
 generalize τ 3=v3 at hS
 generalize τ 4=v4 at hS
 refine Zb (wp_seq (wp_seq ?_))
 refine Za hS (qg 0 102 r1 r1 (qa 102 r1 r1 qZ)) hB [7,5,4,3,2] [103,102,101,0] rfl rfl fun a w F hS=>Zb (wp_block (wp_seq ?_))
 refine Za hS (qf (o_eql .t qi) r1 qz (qN rfl rfl qZ)) hB [8,7,5,4,3,2] [103,102,101,0] rfl rfl fun a w F hS=>Zb ?_
 refine Zd hS rfl (fun hc0=>?_) (fun hc0=>?_)
 ·skip
  have hg:ZN g c=Zay g c.tx:=by unfold ZN;rw [if_pos (by simpa using hc0)]
  refine wp_seq ?_
  refine Za hS (qe 2 101 r1 r1 (qg 1 102 r1 r1 (qf (oL true 3 102 .adr) r1 r1 (qf (oP (Zm0 g c.tx hs (by have:=hc.1;omega)) Tryz.func55 (Args.two (.pagg .t) (.pagg .t))) r2 qz (qf (o_extract .t rfl) r1 qz (qf (o_extract .t rfl) r1 qz (qf (oA 2 103 .is (.conv .t .agg)) r2 r1 (qN rfl rfl qZ)))))))) hB [5,4] [103,102,101,0] rfl rfl fun a w F hS=>Zb (wp_ret (Zl (Zg ?_)))
  refine ZI hfr hS rfl (.cl 103 true 2 rfl rfl (.tmp rfl .nil)) (.two (by rw [hg];first | exact .aggU rfl rfl | exact .aggLe rfl ⟨PVLe.nilSl,PVLe.nilSl,trivial⟩) (.int (by rw [hg])))
 have k1:¬ c.kind=1:=by simpa using hc0
 refine wp_seq ?_
 refine Za hS (qf (o_eql .t qi) r1 qz (qN rfl rfl qZ)) hB [16,7,5,4,3,2] [103,102,101,0] rfl rfl fun a w F hS=>Zb ?_
 refine Zd hS rfl (fun hc1=>?_) (fun hc1=>?_)
 ·skip
  have hg:ZN g c=Za8 g c.tx:=by unfold ZN;rw [if_neg k1,if_pos (by simpa using hc1)]
  refine wp_seq ?_
  refine Za hS (qe 2 101 r1 r1 (qg 1 102 r1 r1 (qf (oL true 3 102 .adr) r1 r1 (qf (oP (Zn1 g c.tx hs (by have:=hc.1;omega)) Tryz.func56 (Args.two (.pagg .t) (.pagg .t))) r2 qz (qf (o_extract .t rfl) r1 qz (qf (o_extract .t rfl) r1 qz (qf (oA 2 103 .is (.conv .t .agg)) r2 r1 (qN rfl rfl qZ)))))))) hB [5,4] [103,102,101,0] rfl rfl fun a w F hS=>Zb (wp_ret (Zl (Zg ?_)))
  refine ZI hfr hS rfl (.cl 103 true 2 rfl rfl (.tmp rfl .nil)) (.two (by rw [hg];first | exact .aggU rfl rfl | exact .aggLe rfl ⟨PVLe.nilSl,PVLe.nilSl,trivial⟩) (.int (by rw [hg])))
 have k2:¬ c.kind=2:=by simpa using hc1
 refine wp_seq ?_
 refine Za hS (qf (o_eql .t qi) r1 qz (qN rfl rfl qZ)) hB [24,7,5,4,3,2] [103,102,101,0] rfl rfl fun a w F hS=>Zb ?_
 refine Zd hS rfl (fun hc2=>?_) (fun hc2=>?_)
 ·skip
  have hg:ZN g c=Zal g c.id:=by unfold ZN;rw [if_neg k1,if_neg k2,if_pos (by simpa using hc2)]
  refine wp_seq ?_
  refine Za hS (qe 2 101 r1 r1 (qg 7 102 r1 r1 (qa 102 r1 r1 (qf (oP (Zme g c.id hs) Tryz.func57 (Args.two (.pagg .t) .t)) r2 qz (qf (o_extract .t rfl) r1 qz (qf (o_extract .t rfl) r1 qz (qf (oA 2 103 .is (.conv .t .agg)) r2 r1 (qN rfl rfl qZ)))))))) hB [5,4] [103,102,101,0] rfl rfl fun a w F hS=>Zb (wp_ret (Zl (Zg ?_)))
  refine ZI hfr hS rfl (.cl 103 true 2 rfl rfl (.tmp rfl .nil)) (.two (by rw [hg];first | exact .aggU rfl rfl | exact .aggLe rfl ⟨PVLe.nilSl,PVLe.nilSl,trivial⟩) (.int (by rw [hg])))
 have k3:¬ c.kind=3:=by simpa using hc2
 refine wp_seq ?_
 refine Za hS (qf (o_eql .t qi) r1 qz (qN rfl rfl qZ)) hB [32,7,5,4,3,2] [103,102,101,0] rfl rfl fun a w F hS=>Zb ?_
 refine Zd hS rfl (fun hc3=>?_) (fun hc3=>?_)
 ·skip
  have hg:ZN g c=ZcW g c.order:=by unfold ZN;rw [if_neg k1,if_neg k2,if_neg k3,if_pos (by simpa using hc3)]
  refine wp_seq ?_
  refine Za hS (qe 2 101 r1 r1 (qg 4 102 r1 r1 (qf (oL true 2 102 .adr) r1 r1 (qf (oP (ZlQ g c.order hs (by have:=hc.2;omega)) Tryz.func58 (Args.two (.pagg .t) (.pagg .t))) r2 qz (qf (o_extract .t rfl) r1 qz (qf (o_extract .t rfl) r1 qz (qf (oA 2 103 .is (.conv .t .agg)) r2 r1 (qN rfl rfl qZ)))))))) hB [5,4] [103,102,101,0] rfl rfl fun a w F hS=>Zb (wp_ret (Zl (Zg ?_)))
  refine ZI hfr hS rfl (.cl 103 true 2 rfl rfl (.tmp rfl .nil)) (.two (by rw [hg];first | exact .aggU rfl rfl | exact .aggLe rfl ⟨PVLe.nilSl,PVLe.nilSl,trivial⟩) (.int (by rw [hg])))
 have k4:¬ c.kind=4:=by simpa using hc3
 refine wp_seq ?_
 refine Za hS (qf (o_eql .t qi) r1 qz (qN rfl rfl qZ)) hB [40,5,4,3,2] [103,102,101,0] rfl rfl fun a w F hS=>Zb ?_
 refine Zd hS rfl (fun hc4=>?_) (fun hc4=>?_)
 ·skip
  have hg:ZN g c=ZlE g c.key c.id c.place:=by unfold ZN;rw [if_neg k1,if_neg k2,if_neg k3,if_neg k4,if_pos (by simpa using hc4)]
  refine wp_seq ?_
  refine Za hS (qe 2 101 r1 r1 (qg 6 102 r1 r1 (qa 102 r1 r1 (qg 7 102 r1 r1 (qa 102 r1 r1 (qg 8 102 r1 r1 (qa 102 r1 r1 (qf (oP (Zpe g c.key c.id c.place hs) Tryz.func59 (Args.four (.pagg .t) .t .t .t)) r4 qz (qf (o_extract .t rfl) r1 qz (qf (o_extract .t rfl) r1 qz (qf (oA 2 103 .is (.conv .t .agg)) r2 r1 (qN rfl rfl qZ)))))))))))) hB [5,4] [103,102,101,0] rfl rfl fun a w F hS=>Zb (wp_ret (Zl (Zg ?_)))
  refine ZI hfr hS rfl (.cl 103 true 2 rfl rfl (.tmp rfl .nil)) (.two (by rw [hg];first | exact .aggU rfl rfl | exact .aggLe rfl ⟨PVLe.nilSl,PVLe.nilSl,trivial⟩) (.int (by rw [hg])))
 have k5:¬ c.kind=5:=by simpa using hc4
 have hg:ZN g c=(zeroH,11):=by unfold ZN;rw [if_neg k1,if_neg k2,if_neg k3,if_neg k4,if_neg k5]
 refine wp_skip (Zi (Zb (wp_seq ?_)))
 refine Za hS (qf (oB [] [.slice none 0 0,.slice none 0 0] [(0,1),(1,1)] .nil) trivial qz (qs 2 103 r2 r1 (qI qZ))) hB [5,4] [103,102,101,0] rfl rfl fun a w F hS=>Zb (wp_ret ?_)
 refine ZI hfr hS rfl (.cl 103 true 2 rfl rfl (.tmp rfl .nil)) (.two (by rw [hg];first | exact .aggU rfl rfl | exact .aggLe rfl ⟨PVLe.nilSl,PVLe.nilSl,trivial⟩) (.int (by rw [hg])))
theorem Zmm (l:List CmdD) (hl:Zk2 l):FnP Tryz.prog 19 [.sl rCmd l] (.tup [.agg (Zk (playC zeroH l 0).1),.int .i64 (((playC zeroH l 0).2.1:Nat):Int),.int .i64 (playC zeroH l 0).2.2]):=by
 refine FnP.mk Tryz.func19 rfl Tryz.ntmps19 rfl ?_
 intro B a w F hB hfr hS
 have hll:=hl.1
 refine wp_seq ?_
 refine Zc hS (qf (oH [.slice none 0 0,.slice none 0 0] 101) trivial qz (qI (qI qZ))) hB [4,3,2,0] [101,0] (fun _=>rfl) (fun _=>rfl) fun τ a w F hS=>?_
 try dsimp only [RS.sub,SF.sub,CF.sub,csub,Anc.sub,List.map,zCF,Zk,rTx,Zs,ZG,rInt,rOp,rCmd] at hS
 generalize τ 2=v2 at hS
 refine Zb (wp_seq (wp_seq ?_))
 refine Za hS (qM rfl rfl (qu Tryz.underlying26 r1 (qJ qZ))) hB [11,10,9,4,3,2,0] [101,0] rfl rfl fun a w F hS=>Zb (wp_block ?_)
 replace hS:=hS.turn 101 rfl (r':=.pt (.val v2) 25 [.pv (.sl rTx zeroH.txs),.pv (.sl Zs zeroH.orders)]) (Zqr rfl rfl ⟨PVLe.nilSl,PVLe.nilSl,trivial⟩)
 refine Zo (σ:=(Nat)×(HistD)) [0,2,3,4,9,10] [0] (fun s=>[(11,.pv (.int .i64 (s.1:Int)))]) (fun s=>[(101,.pt (.val v2) 25 [.pv (.sl rTx (s.2).txs),.pv (.sl Zs (s.2).orders)])]) (fun s=>s.1≤l.length∧(playC zeroH l 0=playC s.2 (l.drop s.1) s.1∧ZaQ s.1 s.2)) (fun s=>l.length - s.1) ((0),(zeroH)) hS ⟨rfl,rfl,rfl,rfl,rfl,rfl,rfl,trivial⟩ ⟨rfl,rfl,trivial⟩ ⟨Nat.zero_le _,⟨rfl,ZaQ.zero⟩⟩ ?_
 clear hS;intro s a w F hC hS
 obtain ⟨i,gg⟩:=s
 try dsimp only at hC
 obtain ⟨F,hS⟩:=hS.nm [11,10,9,4,3,2,0] [101,0] rfl rfl
 try dsimp only at hS
 obtain ⟨hi,hq⟩:=hC
 obtain ⟨hpc,hfit⟩:=hq
 refine wp_seq ?_
 refine Za hS (qL r2) hB [12,11,10,9,4,3,2,0] [101,0] rfl rfl fun a w F hS=>Zb (wp_seq ?_)
 refine Zd hS rfl (fun hc0=>?_) (fun hc0=>?_)
 ·skip
  have hil:i<l.length:=by simp at hc0;omega
  have hio:=hil
  refine wp_skip (Zb (wp_seq (wp_block (wp_seq ?_))))
  refine Zc hS (qM rfl rfl (qy 10 Tryz.underlying26 r2 (qf (oR true 10 .t) r1 qz (qf (oH [.int .i64 0,.int .i64 0,.bool false,.slice none 0 0,.int .i64 0,.slice none 0 0,.int .i64 0,.int .i64 0,.int .i64 0,.int .i64 0] 102) trivial qz (qN rfl rfl (qS 10 102 r2 r1 qZ)))))) hB [11,10,9,6,5,4,3,2,0] [102,101,0] (fun _=>rfl) (fun _=>rfl) fun τ a w F hS=>?_
  try dsimp only [RS.sub,SF.sub,CF.sub,csub,Anc.sub,List.map,Zf,xL,xM,Nat.reduceAdd,xD,xE,xT,xU,xC,xN,zCF,ldSF,Zk,rTx,Zs,ZG,rInt,rOp,rCmd] at hS
  generalize τ 6=v6 at hS
  try simp only [Int.toNat_natCast] at hS
  refine Zb (wp_seq ?_)
  refine Zc hS (qe 2 101 r1 r1 (qe 10 102 r1 r1 (qf (oP (Zdr gg (Go.Gm.nth l i) (hfit.fit.small40 (by have:=hl.1;omega)) (LightC.at hl hio)) Tryz.func25 (Args.two (.pagg .t) (.pagg .t))) r2 qz (qM rfl rfl (qf (o_extract .t rfl) r1 qz (qf (o_extract .t rfl) r1 qz (qf (oH [.slice none 0 0,.slice none 0 0] 103) trivial qz (qf (oA 2 103 .same (.conv .t .agg)) r2 r1 (qN rfl rfl qZ))))))))) hB [11,10,9,8,7,5,4,3,2,0] [103,102,101,0] (fun _=>rfl) (fun _=>rfl) fun τ a w F hS=>?_
  try dsimp only [RS.sub,SF.sub,CF.sub,csub,Anc.sub,List.map,Zf,xL,xM,Nat.reduceAdd,xD,xE,xT,xU,xC,xN,zCF,ldSF,Zk,rTx,Zs,ZG,rInt,rOp,rCmd] at hS
  generalize τ 7=v7 at hS
  refine Zb (wp_seq (wp_seq ?_))
  refine Za hS (qM rfl rfl (qf (o_neq .t qi) r1 qz qZ)) hB [23,11,10,9,8,7,5,4,3,2,0] [103,102,101,0] rfl rfl fun a w F hS=>Zb ?_
  refine Zd hS rfl (fun hc1=>?_) (fun hc1=>?_)
  ·skip
   have hg:=ZfA hpc hio (by simpa using hc1)
   refine wp_seq ?_
   refine Za hS (qf (oB [] [.slice none 0 0,.slice none 0 0] [(0,1),(1,1)] .nil) trivial qz (qM rfl rfl (qM rfl rfl (qs 2 101 r2 r1 (qN rfl rfl (qN rfl rfl qZ)))))) hB [11,10,9,7,4,3,2,0] [103,102,101,0] rfl rfl fun a w F hS=>Zb (wp_ret (Zg (Zl (Zg (Zg (Zl (Zg ?_)))))))
   refine ZI hfr hS rfl (.cl 101 true 2 rfl rfl (.tmp rfl (.tmp rfl .nil))) (.three (by rw [hg];first | exact .aggU rfl rfl | exact .aggLe rfl ⟨PVLe.nilSl,PVLe.nilSl,trivial⟩) (.int (by rw [hg])) (.int (by rw [hg])))
  have hok:¬ (ZN gg (Go.Gm.nth l i)).2≠0:=by simpa using hc1
  refine wp_skip (Zb ?_)
  refine Za hS (qe 2 103 r1 r1 (qs 2 101 r2 r1 qZ)) hB [11,10,9,4,3,2,0] [103,102,101,0] rfl rfl fun a w F hS=>Zi (Zb ?_)
  refine Za hS (qp r1 (qM rfl rfl qZ)) hB [11,10,9,4,3,2,0] [103,102,101,0] rfl rfl fun a w F hS=>Zb ?_
  replace hS:=hS.ent (i:=11) (s':=.pv (.int .i64 ((i+1:Nat):Int))) rfl (.int (Ze (by omega)))
  obtain ⟨F,hS⟩:=hS.nm [10,9,4,3,2,0,11] [0,101] rfl rfl
  exact ⟨((i+1),((ZN gg (Go.Gm.nth l i)).1)),F,⟨by omega,⟨Zed hpc hio hok,hfit.edit (by have:=hl.1;omega) (LightC.at hl hio) hok⟩⟩,hS,by omega⟩
 have hil:i=l.length:=by simp at hc0;omega
 have hg:=Zfr hpc hil
 refine wp_exit (Zj (Zj (Zp (Zb (wp_seq ?_)))))
 refine Za hS (qe 2 101 r1 r1 (qM rfl rfl (qu Tryz.underlying26 r1 (qs 2 101 r2 r1 (qN rfl rfl (qI qZ)))))) hB [4,3,2] [101,0] rfl rfl fun a w F hS=>Zb (wp_ret ?_)
 refine ZI hfr hS rfl (.cl 101 true 2 rfl rfl (.tmp rfl (.tmp rfl .nil))) (.three (by rw [hg];first | exact .aggU rfl rfl | exact .aggLe rfl ⟨PVLe.nilSl,PVLe.nilSl,trivial⟩) (.int (by rw [hg])) (.int (by rw [hg])))
end Go.Proofs.YtjhapicamnijnaaGreat
