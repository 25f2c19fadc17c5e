/- Texts put together. No condition beyond those that each theorem says. -/
import Derived.Test.YtjhapicamnijnaaGreatJ0
import Derived.Test.YtjhapicamnijnaaGreatLibG
import Derived.Test.YtjhapicamnijnaaGreatLibX
namespace Go.Proofs.YtjhapicamnijnaaGreat
open Go Go.Gm
set_option linter.unusedVariables false
set_option linter.unusedSimpArgs false
set_option maxHeartbeats 4000000
set_option maxRecDepth 8000
def Zcq (o:OpD):Int:=if ZaZ o=true then 0 else 1
theorem ZkZ {o:OpD} (h:ZaZ o=true):(1≤o.key∧o.key≤1048575)∧(0≤o.tx∧o.tx≤1048575)∧(0≤o.nth∧o.nth≤4095):=by
 unfold ZaZ at h
 split at h
 · unfold Zbb at h
   dsimp only at h
   split at h <;> simp only [Bool.and_eq_true,decide_eq_true_eq,ZeH] at h <;> omega
 · simp only [Bool.and_eq_true,decide_eq_true_eq,ZeH] at h
   omega
theorem ZdY {o:OpD} (h:o.read=true):ZaZ o=Zbb (ofO o):=by unfold ZaZ ofO;rw [if_pos h,if_pos h]
theorem Zc5 {o:OpD} (h:o.read=false):ZaZ o=((idB o.key && decide (o.tx=0)) && decide (o.nth=0)):=by unfold ZaZ;rw [if_neg (by rw [h];decide)]
theorem ZjH (v:Zbz):(ZmK v).2=if Zbb v=true then 0 else 1:=by unfold ZmK;split <;> rfl
theorem ZmH (o:OpD):FnP Tryz.prog 159 [.agg (rOp o)] (.agg (Zv (ofO o))):=by
 refine FnP.mk Tryz.func159 rfl Tryz.ntmps159 rfl ?_
 intro B a w F hB hfr hS
 refine wp_seq ?_
 refine Zc hS (qx 101 r1 (qf (oH [.int .i64 0,.int .i64 0,.int .i64 0] 102) trivial qz qZ)) hB [2,1] [102,101,0] (fun _=>rfl) (fun _=>rfl) fun τ a w F hS=>?_
 try dsimp only [RS.sub,SF.sub,CF.sub,csub,Anc.sub,List.map,zCF] at hS
 generalize τ 1=v1 at hS
 generalize τ 2=v2 at hS
 refine Za (wp_seq (wp_seq ?_))
 refine Zb hS (qg 0 101 r1 r1 (qa 101 r1 r1 (qf (o_not .t) r1 qz qZ))) hB [5,2,1] [102,101,0] rfl rfl fun a w F hS=>Za ?_
 refine Zd hS rfl (fun hc0=>?_) (fun hc0=>?_)
 ·skip
  have hr:o.read=false:=by simpa using hc0
  refine wp_seq ?_
  refine Zb hS (qf (oB [] [.int .i64 0,.int .i64 0,.int .i64 0] [(0,1),(1,1),(2,1)] .nil) trivial qz (qs 3 102 r2 r1 qZ)) hB [2,1] [102,101,0] rfl rfl fun a w F hS=>Za (wp_ret (Zg ?_))
  refine ZA hfr hS rfl (.cl 102 true 3 rfl rfl .nil) (.one (.aggU rfl (by unfold ofO;rw [hr];rfl)))
 have hr:o.read=true:=by simpa using hc0
 refine wp_skip (Za (wp_seq ?_))
 refine Zb hS (qg 2 101 r1 r1 (qa 101 r1 r1 (qg 1 101 r1 r1 (qa 101 r1 r1 (qg 3 101 r1 r1 (qa 101 r1 r1 (qf (oB [(0,.tmp 8),(1,.tmp 10),(2,.tmp 12)] [.int .i64 0,.int .i64 0,.int .i64 0] [(0,1),(1,1),(2,1)] (.one rfl .t one_int (by kernel_rfl) (.one rfl .t one_int (by kernel_rfl) (.one rfl .t one_int (by kernel_rfl) .nil)))) r3 qz (qs 3 102 r2 r1 qZ)))))))) hB [2] [102,101,0] rfl rfl fun a w F hS=>Za (wp_ret ?_)
 refine ZA hfr hS rfl (.cl 102 true 3 rfl rfl .nil) (.one (.aggU rfl (by unfold ofO;rw [hr];rfl)))
theorem Zli (o:OpD):FnP Tryz.prog 190 [.agg (rOp o)] (.agg (Zv (ofO o))):=by
 refine FnP.mk Tryz.func190 rfl Tryz.ntmps190 rfl ?_
 intro B a w F hB hfr hS
 refine wp_seq ?_
 refine Zc hS (qx 101 r1 (qf (oH [.int .i64 0,.int .i64 0,.int .i64 0] 102) trivial qz qZ)) hB [2,1] [102,101,0] (fun _=>rfl) (fun _=>rfl) fun τ a w F hS=>?_
 try dsimp only [RS.sub,SF.sub,CF.sub,csub,Anc.sub,List.map,zCF] at hS
 generalize τ 1=v1 at hS
 generalize τ 2=v2 at hS
 refine Za (wp_seq (wp_seq ?_))
 refine Zb hS (qg 0 101 r1 r1 (qa 101 r1 r1 (qf (o_not .t) r1 qz qZ))) hB [5,2,1] [102,101,0] rfl rfl fun a w F hS=>Za ?_
 refine Zd hS rfl (fun hc0=>?_) (fun hc0=>?_)
 ·skip
  have hr:o.read=false:=by simpa using hc0
  refine wp_seq ?_
  refine Zb hS (qf (oB [] [.int .i64 0,.int .i64 0,.int .i64 0] [(0,1),(1,1),(2,1)] .nil) trivial qz (qs 3 102 r2 r1 qZ)) hB [2,1] [102,101,0] rfl rfl fun a w F hS=>Za (wp_ret (Zg ?_))
  refine ZA hfr hS rfl (.cl 102 true 3 rfl rfl .nil) (.one (.aggU rfl (by unfold ofO;rw [hr];rfl)))
 have hr:o.read=true:=by simpa using hc0
 refine wp_skip (Za (wp_seq ?_))
 refine Zb hS (qg 2 101 r1 r1 (qa 101 r1 r1 (qg 1 101 r1 r1 (qa 101 r1 r1 (qg 3 101 r1 r1 (qa 101 r1 r1 (qf (oB [(0,.tmp 8),(1,.tmp 10),(2,.tmp 12)] [.int .i64 0,.int .i64 0,.int .i64 0] [(0,1),(1,1),(2,1)] (.one rfl .t one_int (by kernel_rfl) (.one rfl .t one_int (by kernel_rfl) (.one rfl .t one_int (by kernel_rfl) .nil)))) r3 qz (qs 3 102 r2 r1 qZ)))))))) hB [2] [102,101,0] rfl rfl fun a w F hS=>Za (wp_ret ?_)
 refine ZA hfr hS rfl (.cl 102 true 3 rfl rfl .nil) (.one (.aggU rfl (by unfold ofO;rw [hr];rfl)))
theorem ZkH (o:OpD):FnP Tryz.prog 97 [.agg (rOp o)] (.int .i64 (Zcq o)):=by
 refine FnP.mk Tryz.func97 rfl Tryz.ntmps97 rfl ?_
 intro B a w F hB hfr hS
 refine wp_seq ?_
 refine Zc hS (qx 101 r1 (qI qZ)) hB [2,1] [101,0] (fun _=>rfl) (fun _=>rfl) fun τ a w F hS=>?_
 try dsimp only [RS.sub,SF.sub,CF.sub,csub,Anc.sub,List.map,zCF] at hS
 generalize τ 1=v1 at hS
 refine Za (wp_seq (wp_seq ?_))
 refine Zb hS (qg 0 101 r1 r1 (qa 101 r1 r1 qZ)) hB [6,2,1] [101,0] rfl rfl fun a w F hS=>Za ?_
 refine Zd hS rfl (fun hc0=>?_) (fun hc0=>?_)
 ·skip
  have hg:(ZmK (ofO o)).2=Zcq o:=by rw [ZjH];unfold Zcq;rw [ZdY hc0]
  refine wp_seq ?_
  refine Zb hS (qe 4 101 r1 r1 (qf (oP (ZmH o) Tryz.func159 (Args.one (.pagg .t))) r1 qz (qf (oP (ZkK (ofO o)) Tryz.func158 (Args.one .t)) r1 qz (qM rfl rfl (qf (o_extract .t rfl) r1 qz (qf (o_extract .t rfl) r1 qz (qN rfl rfl (qN rfl rfl qZ)))))))) hB [4,2,1] [101,0] rfl rfl fun a w F hS=>Za (wp_seq ?_)
  refine Zb hS (qM rfl rfl (qN rfl rfl qZ)) hB [2,1] [101,0] rfl rfl fun a w F hS=>Za (wp_ret (Zg ?_))
  refine Zr hfr hS rfl rfl rfl (.int hg)
 have hr:o.read=false:=hc0
 refine wp_skip (Za (wp_seq (wp_seq ?_)))
 refine Zb hS (qe 4 101 r1 r1 (qg 1 101 r1 r1 (qa 101 r1 r1 (qf (oB [(1,.tmp 16)] [.bool false,.int .i64 0,.int .i64 0,.int .i64 0] [(0,1),(1,1),(2,1),(3,1)] (.one rfl .t one_int (by kernel_rfl) .nil)) r1 qz (qf (Zlh (ks:=[false,true,true,true]) (by kernel_rfl) .t .t (.bool (.int (.int (.int .nil))))) r2 qz (qM rfl rfl (qv 1 101 rfl r2 r1 (qw 101 rfl r2 r1 (qk rfl (fun h=>Zb3 (.w h) qi) r2 qz (qf (ZaI .t .t) r2 qz (qM rfl rfl (qv 1 101 rfl r2 r1 (qw 101 rfl r2 r1 (qk rfl (fun h=>ZaR (.w h) qi) r2 qz (qf (ZaI .t .t) r2 qz qZ))))))))))))))) hB [28,2] [101,0] rfl rfl fun a w F hS=>Za ?_
 refine Zd hS rfl (fun hc1=>?_) (fun hc1=>?_)
 ·skip
  have hg:(1:Int)=Zcq o:=by
    unfold Zcq
    rw [if_neg]
    rw [Zc5 hr]
    simp [hr,idB] at hc1 ⊢
    omega
  refine wp_seq ?_
  refine Zb hS (qI qZ) hB [2] [101,0] rfl rfl fun a w F hS=>Za (wp_ret (Zg ?_))
  refine Zr hfr hS rfl rfl rfl (.int hg)
 have hg:(0:Int)=Zcq o:=by
   unfold Zcq
   rw [if_pos]
   rw [Zc5 hr]
   simp [hr,idB] at hc1 ⊢
   omega
 refine wp_skip (Za (wp_seq ?_))
 refine Zb hS (qI qZ) hB [2] [101,0] rfl rfl fun a w F hS=>Za (wp_ret ?_)
 refine Zr hfr hS rfl rfl rfl (.int hg)
theorem ZhL (o:OpD):FnP Tryz.prog 147 [.agg (rOp o)] (.bool (ZaZ o)):=by
 refine FnP.mk Tryz.func147 rfl Tryz.ntmps147 rfl ?_
 intro B a w F hB hfr hS
 refine wp_seq ?_
 refine Zc hS (qx 101 r1 qB) hB [2,1] [101,0] (fun _=>rfl) (fun _=>rfl) fun τ a w F hS=>?_
 try dsimp only [RS.sub,SF.sub,CF.sub,csub,Anc.sub,List.map,zCF] at hS
 generalize τ 1=v1 at hS
 refine Za (wp_seq (wp_seq ?_))
 refine Zb hS (qg 0 101 r1 r1 (qa 101 r1 r1 qZ)) hB [4,2,1] [101,0] rfl rfl fun a w F hS=>Za ?_
 refine Zd hS rfl (fun hc0=>?_) (fun hc0=>?_)
 ·skip
  have hg:Zbb (ofO o)=ZaZ o:=(ZdY hc0).symm
  refine wp_seq ?_
  refine Zb hS (qe 4 101 r1 r1 (qf (oP (Zli o) Tryz.func190 (Args.one (.pagg .t))) r1 qz (qf (oP (Zmx (ofO o)) Tryz.func189 (Args.one .t)) r1 qz (qN rfl rfl qZ)))) hB [2,1] [101,0] rfl rfl fun a w F hS=>Za (wp_ret (Zg ?_))
  refine Zr hfr hS rfl rfl rfl (.bool hg)
 have hg:((idB o.key && decide (o.tx=0)) && decide (o.nth=0))=ZaZ o:=(Zc5 hc0).symm
 refine wp_skip (Za (wp_seq ?_))
 refine Zb hS (qg 1 101 r1 r1 (qa 101 r1 r1 (qf (oP (ZdN o.key) Tryz.func146 (Args.one .t)) r1 qz (qM rfl rfl (qv 2 101 rfl r2 r1 (qw 101 rfl r2 r1 (qk rfl (fun h=>o_eql (.w h) qi) r2 qz (qf (Zy .t .t) r2 qz (qM rfl rfl (qv 3 101 rfl r2 r1 (qw 101 rfl r2 r1 (qk rfl (fun h=>o_eql (.w h) qi) r2 qz (qf (Zy .t .t) r2 qz (qN rfl rfl qZ)))))))))))))) hB [2] [101,0] rfl rfl fun a w F hS=>Za (wp_ret ?_)
 refine Zr hfr hS rfl rfl rfl (.bool hg)
theorem ZnH (t : TxD) (hl : t.ops.length ≤ 1000000) (p : OpD → Bool) (f : FuncId) (fn : Func) (cps : List PV) (hf : Tryz.prog.funcs[f]? = some fn) (hb : fn.body.isSome = true) (hnn : (fn.name == "runtime.NumGoroutine") = false) (hw : ∀ x, FnP Tryz.prog f (.agg (rOp x) :: cps) (.bool (p x))) : FnP Tryz.prog 162 [.agg (rTx t), .clos f cps] (.sl rInt (ZaO ((t.ops.filter p).map OpD.key))) := by
 refine FnP.mk Tryz.func162 rfl Tryz.ntmps162 rfl ?_
 intro B a w F hB hfr hS
 refine wp_seq ?_
 refine Zc hS (qx 101 r1 (qC qZ)) hB [4,2,1] [101,0] (fun _=>rfl) (fun _=>rfl) fun τ a w F hS=>?_
 try dsimp only [RS.sub,SF.sub,CF.sub,csub,Anc.sub,List.map,zCF,rInt,rOp,rTx] at hS
 generalize τ 2=v2 at hS
 refine Za (wp_seq ?_)
 refine Zb hS (qC qZ) hB [5,4,2,1] [101,0] rfl rfl fun a w F hS=>Za (wp_seq (wp_seq ?_))
 refine Zb hS (qg 2 101 r1 r1 (qa 101 r1 r1 (qu Tryz.underlying38 r1 (qJ qZ)))) hB [11,10,9,5,4,1] [101,0] rfl rfl fun a w F hS=>Za (wp_block ?_)
 replace hS:=hS.fresh 50 rfl
 replace hS:=hS.turn 50 rfl (Zaf (T:=3) (sz:=1) (R:=rInt))
 refine Zl (σ:=(Nat)×(Value)×(List Int)) [1,4,9,10] [0,101] (fun s=>[(11,.pv (.int .i64 (s.1:Int))),(5,.pv (.is s.2.1))]) (fun s=>[(50,.ob (.val s.2.1) (Zw 3 1 rInt s.2.2))]) (fun s=>s.1≤t.ops.length∧(s.2.2=(((t.ops.take s.1).filter p).map OpD.key))) (fun s=>t.ops.length - s.1) ((0),(.slice none 0 0),([])) hS ⟨rfl,rfl,rfl,rfl,rfl,rfl,trivial⟩ ⟨rfl,rfl,rfl,trivial⟩ ⟨Nat.zero_le _,rfl⟩ ?_
 clear hS;intro s a w F hC hS
 obtain ⟨i,v,out⟩:=s
 try dsimp only at hC
 obtain ⟨F,hS⟩:=hS.nm [11,10,9,5,4,1] [101,50,0] rfl rfl
 try dsimp only at hS
 obtain ⟨hi,hq⟩:=hC
 have hol:out.length≤i:=by rw [hq,List.length_map];exact Nat.le_trans (List.length_filter_le _ _) (by rw [List.length_take];omega)
 refine wp_seq ?_
 refine Zb hS (qL r2) hB [12,11,10,9,5,4,1] [101,50,0] rfl rfl fun a w F hS=>Za (wp_seq ?_)
 refine Zd hS rfl (fun hc0=>?_) (fun hc0=>?_)
 ·skip
  have hil:i<t.ops.length:=by simp at hc0;omega
  refine wp_skip (Za (wp_seq (wp_block (wp_seq ?_))))
  refine Zc hS (qy 4 Tryz.underlying38 r2 (qf (oR true 4 .t) r1 qz (qf (oH [.bool false,.int .i64 0,.int .i64 0,.int .i64 0] 102) trivial qz (qS 4 102 r2 r1 qZ)))) hB [11,10,9,7,5,4,1] [102,101,50,0] (fun _=>rfl) (fun _=>rfl) fun τ a w F hS=>?_
  try dsimp only [RS.sub,SF.sub,CF.sub,csub,Anc.sub,List.map,Zf,xL,xM,Nat.reduceAdd,xD,xE,xT,xU,xC,xN,zCF,ldSF,rInt,rOp,rTx] at hS
  generalize τ 7=v7 at hS
  try simp only [Int.toNat_natCast] at hS
  refine Za (wp_seq ?_)
  refine Zb hS (qM rfl rfl (qe 4 102 r1 r1 (qf (Z2 (avs:=[.agg (rOp (Go.Gm.nth t.ops i))]) .t (hw (Go.Gm.nth t.ops i)) hf hb hnn (Args.one (.pagg .t))) r2 qz qZ))) hB [17,11,10,9,7,5,4,1] [102,101,50,0] rfl rfl fun a w F hS=>Za ?_
  refine Zd hS rfl (fun hc1=>?_) (fun hc1=>?_)
  ·skip
   have hBq:p (Go.Gm.nth t.ops i)=true:=by simpa using hc1
   refine Zc hS (qM rfl rfl (qg 1 102 r1 r1 (qa 102 r1 r1 (qf (Zh (sz:=1) (zs:=[.int .i64 0]) (r:=[(0,.tmp 20)]) (l:=[_]) Tryz.underlying41 (by kernel_rfl) (by kernel_rfl) (by kernel_rfl) (by kernel_rfl) rfl rfl (.one rfl .t one_int (by kernel_rfl) .nil) rfl) r1 qz (qf (o_append (sz:=1) (bs:=8) 50 (.mk' Tryz.underlying41 (by kernel_rfl) (by kernel_rfl)) (by intro x;rfl) .is (.arr (l':=[(Go.Gm.nth t.ops i).key]) .t) (by simp only [List.length_append,List.length_cons,List.length_nil,List.length_take,List.length_drop];omega) (by decide)) ⟨rfl,rfl,trivial⟩ ⟨rfl,trivial⟩ (qN rfl rfl qZ)))))) hB [11,10,9,5,4,1] [102,101,50,0] (fun _=>rfl) (fun _=>rfl) fun τ a w F hS=>?_
   try dsimp only [RS.sub,SF.sub,CF.sub,csub,Anc.sub,List.map,Zf,xL,xM,Nat.reduceAdd,xD,xE,xT,xU,xC,xN,zCF,ldSF,rInt,rOp,rTx] at hS
   generalize τ 22=v22 at hS
   refine Zi (Za ?_)
   refine Zb hS (qp r1 (qM rfl rfl qZ)) hB [11,10,9,5,4,1] [102,101,50,0] rfl rfl fun a w F hS=>Za ?_
   replace hS:=hS.ent (i:=11) (s':=.pv (.int .i64 ((i+1:Nat):Int))) rfl (.int (Ze (by omega)))
   obtain ⟨F,hS⟩:=hS.nm [10,9,4,1,5,11] [101,0,50] rfl rfl
   exact ⟨((i+1),_,_),F,⟨by omega,(by rw [Zt hil,List.filter_append,List.map_append,← hq];simp [hBq])⟩,hS,by omega⟩
  have hBq:p (Go.Gm.nth t.ops i)=false:=by simpa using hc1
  refine wp_skip (Zi (Za ?_))
  refine Zb hS (qp r1 (qM rfl rfl qZ)) hB [11,10,9,5,4,1] [102,101,50,0] rfl rfl fun a w F hS=>Za ?_
  replace hS:=hS.ent (i:=11) (s':=.pv (.int .i64 ((i+1:Nat):Int))) rfl (.int (Ze (by omega)))
  obtain ⟨F,hS⟩:=hS.nm [10,9,4,1,5,11] [101,0,50] rfl rfl
  exact ⟨((i+1),_,_),F,⟨by omega,(by rw [Zt hil,List.filter_append,List.map_append,← hq];simp [hBq])⟩,hS,by omega⟩
 have hil:i=t.ops.length:=by simp at hc0;omega
 refine wp_exit (Zk (Zk (Zq (Za (wp_seq ?_)))))
 refine Zb hS (qM rfl rfl (qf (Zcc 50 (Zk8 _ out (by omega)) Tryz.func103 rfl (by kernel_rfl) (Args.one .t)) r1 r1 qZ)) hB [5,4] [101,50,0] rfl rfl fun a w F hS=>Za (wp_seq ?_)
 refine Zc hS (qM rfl rfl (qf (Zbh 50 (Zng _ _ (by rw [List.length_mergeSort];omega)) Tryz.func193 rfl (by kernel_rfl) (Args.one .t) ZaF) r1 r1 (qN rfl rfl qZ))) hB [4] [101,50,0] (fun _=>rfl) (fun _=>rfl) fun τ a w F hS=>?_
 try dsimp only [RS.sub,SF.sub,CF.sub,csub,Anc.sub,List.map,rInt,rOp,rTx] at hS
 generalize τ 27=v27 at hS
 refine Za (wp_ret ?_)
 obtain ⟨F,hS⟩:=hS.give 50 4 rfl rfl
 refine Zr hfr hS rfl rfl rfl (.sl (by rw [ZfW,Zii,hq,hil,List.take_length]))
theorem Zcl (l:List Int):(ZaO l).length≤l.length:=by
 have key:∀ (l acc:List Int),(l.foldl Zb2 acc).length≤acc.length+l.length:=fun l=>by
   induction l with
   | nil=>intro acc;simp
   | cons x l ih=>
     intro acc
     have h1:=ih (Zb2 acc x)
     have h2:(Zb2 acc x).length≤acc.length+1:=Zdr acc false
     rw [List.foldl_cons,List.length_cons];omega
 have:=key l []
 simpa [ZaO] using this
theorem Zlj (t:TxD) (all:Bool) (hl:t.ops.length≤1000000):FnP Tryz.prog 151 [.agg (rTx t),.bool all] (.sl rInt (ZaO ((t.ops.filter fun o=>all || !o.read).map OpD.key))):=by
 refine FnP.mk Tryz.func151 rfl Tryz.ntmps151 rfl ?_
 intro B a w F hB hfr hS
 refine wp_seq ?_
 refine Zc hS (qx 101 r1 (qC qZ)) hB [4,2,1] [101,0] (fun _=>rfl) (fun _=>rfl) fun τ a w F hS=>?_
 try dsimp only [RS.sub,SF.sub,CF.sub,csub,Anc.sub,List.map,zCF,rInt,rOp,rTx] at hS
 generalize τ 2=v2 at hS
 refine Za (wp_seq ?_)
 refine Zb hS (qC qZ) hB [5,4,2,1] [101,0] rfl rfl fun a w F hS=>Za (wp_seq (wp_seq ?_))
 refine Zb hS (qg 2 101 r1 r1 (qa 101 r1 r1 (qu Tryz.underlying38 r1 (qJ qZ)))) hB [11,10,9,5,4,1] [0] rfl rfl fun a w F hS=>Za (wp_block ?_)
 replace hS:=hS.ent (i:=5) (s':=.pv (.sl rInt [])) rfl (.nilSl)
 refine Zl (σ:=(Nat)) [1,4,9,10] [0] (fun s=>[(11,.pv (.int .i64 (s:Int))),(5,.pv (.sl rInt (ZaO (((t.ops.take s).filter fun o=>all || !o.read).map OpD.key))))]) (fun s=>[]) (fun s=>s≤t.ops.length∧(True)) (fun s=>t.ops.length - s) (0) hS ⟨rfl,rfl,rfl,rfl,rfl,rfl,trivial⟩ ⟨rfl,trivial⟩ ⟨Nat.zero_le _,trivial⟩ ?_
 clear hS;intro i a w F hC hS
 try dsimp only at hC
 obtain ⟨F,hS⟩:=hS.nm [11,10,9,5,4,1] [0] rfl rfl
 try dsimp only at hS
 obtain ⟨hi,hq⟩:=hC
 have hol:(ZaO (((t.ops.take i).filter fun o=>all || !o.read).map OpD.key)).length≤i:=by
   refine Nat.le_trans (Zcl _) ?_
   rw [List.length_map];exact Nat.le_trans (List.length_filter_le _ _) (by rw [List.length_take];omega)
 refine wp_seq ?_
 refine Zb hS (qL r2) hB [12,11,10,9,5,4,1] [0] rfl rfl fun a w F hS=>Za (wp_seq ?_)
 refine Zd hS rfl (fun hc0=>?_) (fun hc0=>?_)
 ·skip
  have hil:i<t.ops.length:=by simp at hc0;omega
  refine wp_skip (Za (wp_seq (wp_block (wp_seq ?_))))
  refine Zc hS (qy 4 Tryz.underlying38 r2 (qf (oR true 4 .t) r1 qz (qf (oH [.bool false,.int .i64 0,.int .i64 0,.int .i64 0] 102) trivial qz (qS 4 102 r2 r1 qZ)))) hB [11,10,9,7,5,4,1] [102,0] (fun _=>rfl) (fun _=>rfl) fun τ a w F hS=>?_
  try dsimp only [RS.sub,SF.sub,CF.sub,csub,Anc.sub,List.map,Zf,xL,xM,Nat.reduceAdd,xD,xE,xT,xU,xC,xN,zCF,ldSF,rInt,rOp,rTx] at hS
  generalize τ 7=v7 at hS
  try simp only [Int.toNat_natCast] at hS
  refine Za (wp_seq ?_)
  refine Zb hS (qM rfl rfl (qM rfl rfl (qv 0 102 rfl r2 r1 (qw 102 rfl r2 r1 (qk rfl (fun h=>o_not (.w h)) r2 qz (qf (ZaI .t .t) r2 qz qZ)))))) hB [20,11,10,9,7,5,4,1] [102,0] rfl rfl fun a w F hS=>Za ?_
  refine Zd hS rfl (fun hc1=>?_) (fun hc1=>?_)
  ·skip
   have hBq:(all || !(Go.Gm.nth t.ops i).read)=true:=by simpa using hc1
   refine Zb hS (qM rfl rfl (qg 1 102 r1 r1 (qa 102 r1 r1 (qf (oP (Zkc _ (Go.Gm.nth t.ops i).key (by omega)) Tryz.func111 (Args.two .t .t)) r2 qz (qN rfl rfl qZ))))) hB [11,10,9,5,4,1] [0] rfl rfl fun a w F hS=>Zi (Za ?_)
   refine Zb hS (qp r1 (qM rfl rfl qZ)) hB [11,10,9,5,4,1] [0] rfl rfl fun a w F hS=>Za ?_
   replace hS:=hS.ent (i:=11) (s':=.pv (.int .i64 ((i+1:Nat):Int))) rfl (.int (Ze (by omega)))
   replace hS:=hS.ent (i:=5) (s':=.pv (.sl rInt (ZaO (((t.ops.take (i+1)).filter fun o=>all || !o.read).map OpD.key)))) rfl ((.sl (by rw [Zt hil,List.filter_append,List.map_append];simp [hBq,ZaO])))
   obtain ⟨F,hS⟩:=hS.nm [10,9,4,1,5,11] [0] rfl rfl
   exact ⟨(i+1),F,⟨by omega,trivial⟩,hS,by omega⟩
  have hBq:(all || !(Go.Gm.nth t.ops i).read)=false:=by simpa using hc1
  refine wp_skip (Zi (Za ?_))
  refine Zb hS (qp r1 (qM rfl rfl qZ)) hB [11,10,9,5,4,1] [0] rfl rfl fun a w F hS=>Za ?_
  replace hS:=hS.ent (i:=11) (s':=.pv (.int .i64 ((i+1:Nat):Int))) rfl (.int (Ze (by omega)))
  replace hS:=hS.ent (i:=5) (s':=.pv (.sl rInt (ZaO (((t.ops.take (i+1)).filter fun o=>all || !o.read).map OpD.key)))) rfl ((.sl (by rw [Zt hil,List.filter_append,List.map_append];simp [hBq,ZaO])))
  obtain ⟨F,hS⟩:=hS.nm [10,9,4,1,5,11] [0] rfl rfl
  exact ⟨(i+1),F,⟨by omega,trivial⟩,hS,by omega⟩
 have hil:i=t.ops.length:=by simp at hc0;omega
 refine wp_exit (Zk (Zk (Zq (Za (wp_seq ?_)))))
 refine Zb hS (qM rfl rfl (qN rfl rfl qZ)) hB [4] [0] rfl rfl fun a w F hS=>Za (wp_ret ?_)
 refine Zr hfr hS rfl rfl rfl (.sl (by rw [hil,List.take_length]))
theorem Ent.fnClos {f:FuncId} : Ent (.pv (.is (.func (.func f) #[] #[]))) (.pv (.clos f [])):=fun τ w y v h=>⟨[],h.1,trivial⟩
theorem Zm1 (o:OpD):FnP Tryz.prog 163 [.agg (rOp o)] (.bool (!o.read)):=by
 refine FnP.mk Tryz.func163 rfl Tryz.ntmps163 rfl ?_
 intro B a w F hB hfr hS
 refine wp_seq ?_
 refine Zc hS (qx 101 r1 qB) hB [2,1] [101,0] (fun _=>rfl) (fun _=>rfl) fun τ a w F hS=>?_
 try dsimp only [RS.sub,SF.sub,CF.sub,csub,Anc.sub,List.map,zCF,rOp] at hS
 generalize τ 1=v1 at hS
 refine Za (wp_seq ?_)
 refine Zb hS (qg 0 101 r1 r1 (qa 101 r1 r1 (qf (o_not .t) r1 qz (qN rfl rfl qZ)))) hB [2] [0] rfl rfl fun a w F hS=>Za (wp_ret ?_)
 refine Zr hfr hS rfl rfl rfl (.bool rfl)
theorem Zlm (t:TxD) (hl:t.ops.length≤1000000):FnP Tryz.prog 102 [.agg (rTx t)] (.sl rInt (ZaO ((t.ops.filter fun o=>!o.read).map OpD.key))):=by
 refine FnP.mk Tryz.func102 rfl Tryz.ntmps102 rfl ?_
 intro B a w F hB hfr hS
 refine wp_seq ?_
 refine Zc hS (qx 101 r1 (qC qZ)) hB [2,1] [101,0] (fun _=>rfl) (fun _=>rfl) fun τ a w F hS=>?_
 try dsimp only [RS.sub,SF.sub,CF.sub,csub,Anc.sub,List.map,zCF,rTx,rInt] at hS
 generalize τ 1=v1 at hS
 refine Za (wp_seq ?_)
 refine Zb hS (qe 3 101 r1 r1 (qf (oP (ZnH t hl (fun o=>!o.read) 163 Tryz.f163 [] Tryz.func163 rfl (by kernel_rfl) (fun o=>Zm1 o)) Tryz.func162 (Args.two (.pagg .t) (.conv .f (Ent.fnClos)))) r1 qz (qN rfl rfl qZ))) hB [2] [0] rfl rfl fun a w F hS=>Za (wp_ret ?_)
 refine Zr hfr hS rfl rfl rfl (.sl rfl)
theorem Zfi (t:TxD) (n:Int) (hl:t.ops.length≤1000000):FnP Tryz.prog 161 [.agg (rTx t),.int .i64 n] (.int .i64 (((t.ops.filter fun o=>!o.read && decide (o.key=n)).length:Nat):Int)):=by
 refine FnP.mk Tryz.func161 rfl Tryz.ntmps161 rfl ?_
 intro B a w F hB hfr hS
 have hll:t.ops.length≤1000000:=hl
 refine wp_seq ?_
 refine Zc hS (qx 101 r1 (qI qZ)) hB [4,2,1] [101,0] (fun _=>rfl) (fun _=>rfl) fun τ a w F hS=>?_
 try dsimp only [RS.sub,SF.sub,CF.sub,csub,Anc.sub,List.map,zCF,rInt,rOp,rTx] at hS
 generalize τ 2=v2 at hS
 refine Za (wp_seq ?_)
 refine Zb hS (qI qZ) hB [5,4,2,1] [101,0] rfl rfl fun a w F hS=>Za (wp_seq (wp_seq ?_))
 refine Zb hS (qg 2 101 r1 r1 (qa 101 r1 r1 (qu Tryz.underlying38 r1 (qJ qZ)))) hB [11,10,9,5,4,1] [0] rfl rfl fun a w F hS=>Za (wp_block ?_)
 refine Zl (σ:=(Nat)) [1,4,9,10] [0] (fun s=>[(11,.pv (.int .i64 (s:Int))),(5,.pv (.int .i64 ((((t.ops.take s).filter fun o=>!o.read && decide (o.key=n)).length:Nat):Int)))]) (fun s=>[]) (fun s=>s≤t.ops.length∧(True)) (fun s=>t.ops.length - s) (0) hS ⟨rfl,rfl,rfl,rfl,rfl,rfl,trivial⟩ ⟨rfl,trivial⟩ ⟨Nat.zero_le _,trivial⟩ ?_
 clear hS;intro i a w F hC hS
 try dsimp only at hC
 obtain ⟨F,hS⟩:=hS.nm [11,10,9,5,4,1] [0] rfl rfl
 try dsimp only at hS
 obtain ⟨hi,hq⟩:=hC
 refine wp_seq ?_
 refine Zb hS (qL r2) hB [12,11,10,9,5,4,1] [0] rfl rfl fun a w F hS=>Za (wp_seq ?_)
 refine Zd hS rfl (fun hc0=>?_) (fun hc0=>?_)
 ·skip
  have hil:i<t.ops.length:=by simp at hc0;omega
  refine wp_skip (Za (wp_seq (wp_block (wp_seq ?_))))
  refine Zc hS (qy 4 Tryz.underlying38 r2 (qf (oR true 4 .t) r1 qz (qf (oH [.bool false,.int .i64 0,.int .i64 0,.int .i64 0] 102) trivial qz (qS 4 102 r2 r1 qZ)))) hB [11,10,9,7,5,4,1] [102,0] (fun _=>rfl) (fun _=>rfl) fun τ a w F hS=>?_
  try dsimp only [RS.sub,SF.sub,CF.sub,csub,Anc.sub,List.map,Zf,xL,xM,Nat.reduceAdd,xD,xE,xT,xU,xC,xN,zCF,ldSF,rInt,rOp,rTx] at hS
  generalize τ 7=v7 at hS
  try simp only [Int.toNat_natCast] at hS
  refine Za (wp_seq ?_)
  refine Zb hS (qg 0 102 r1 r1 (qa 102 r1 r1 (qf (o_not .t) r1 qz (qM rfl rfl (qv 1 102 rfl r2 r1 (qw 102 rfl r2 r1 (qm rfl rfl rfl rfl (qk rfl (fun h=>o_eql (.w h) (.w h)) r3 qz (qf (Zy .t .t) r2 qz qZ))))))))) hB [23,11,10,9,5,4,1] [0] rfl rfl fun a w F hS=>Za ?_
  refine Zd hS rfl (fun hc1=>?_) (fun hc1=>?_)
  ·skip
   have hstp:((t.ops.take (i+1)).filter fun o=>!o.read && decide (o.key=n))=((t.ops.take i).filter fun o=>!o.read && decide (o.key=n))++(if (!(Go.Gm.nth t.ops i).read && decide ((Go.Gm.nth t.ops i).key=n))=true then [(Go.Gm.nth t.ops i)] else []):=by rw [Zt hil,List.filter_append];simp only [List.filter_cons,List.filter_nil]
   have hle:((t.ops.take i).filter fun o=>!o.read && decide (o.key=n)).length≤i:=Nat.le_trans (List.length_filter_le _ _) (by rw [List.length_take];omega)
   have hBq:(!(Go.Gm.nth t.ops i).read && decide ((Go.Gm.nth t.ops i).key=n))=true:=hc1
   have hcc:IntKind.wrap .i64 (((((t.ops.take i).filter fun o=>!o.read && decide (o.key=n)).length:Nat):Int)+1)=((((t.ops.take (i+1)).filter fun o=>!o.read && decide (o.key=n)).length:Nat):Int):=by rw [hstp,if_pos hBq,List.length_append,ZP (by omega)];simp
   refine Zb hS (qM rfl rfl (qp r1 (qN rfl rfl qZ))) hB [11,10,9,5,4,1] [0] rfl rfl fun a w F hS=>Zi (Za ?_)
   refine Zb hS (qp r1 (qM rfl rfl qZ)) hB [11,10,9,5,4,1] [0] rfl rfl fun a w F hS=>Za ?_
   replace hS:=hS.ent (i:=11) (s':=.pv (.int .i64 ((i+1:Nat):Int))) rfl (.int (Ze (by omega)))
   replace hS:=hS.ent (i:=5) (s':=.pv (.int .i64 ((((t.ops.take (i+1)).filter fun o=>!o.read && decide (o.key=n)).length:Nat):Int))) rfl (.int hcc)
   obtain ⟨F,hS⟩:=hS.nm [10,9,4,1,5,11] [0] rfl rfl
   exact ⟨(i+1),F,⟨by omega,trivial⟩,hS,by omega⟩
  have hstp:((t.ops.take (i+1)).filter fun o=>!o.read && decide (o.key=n))=((t.ops.take i).filter fun o=>!o.read && decide (o.key=n))++(if (!(Go.Gm.nth t.ops i).read && decide ((Go.Gm.nth t.ops i).key=n))=true then [(Go.Gm.nth t.ops i)] else []):=by rw [Zt hil,List.filter_append];simp only [List.filter_cons,List.filter_nil]
  have hle:((t.ops.take i).filter fun o=>!o.read && decide (o.key=n)).length≤i:=Nat.le_trans (List.length_filter_le _ _) (by rw [List.length_take];omega)
  have hBq:(!(Go.Gm.nth t.ops i).read && decide ((Go.Gm.nth t.ops i).key=n))=false:=hc1
  have hcc:((((t.ops.take i).filter fun o=>!o.read && decide (o.key=n)).length:Nat):Int)=((((t.ops.take (i+1)).filter fun o=>!o.read && decide (o.key=n)).length:Nat):Int):=by rw [hstp,if_neg (by rw [hBq];simp),List.append_nil]
  refine wp_skip (Zi (Za ?_))
  refine Zb hS (qp r1 (qM rfl rfl qZ)) hB [11,10,9,5,4,1] [0] rfl rfl fun a w F hS=>Za ?_
  replace hS:=hS.ent (i:=11) (s':=.pv (.int .i64 ((i+1:Nat):Int))) rfl (.int (Ze (by omega)))
  replace hS:=hS.ent (i:=5) (s':=.pv (.int .i64 ((((t.ops.take (i+1)).filter fun o=>!o.read && decide (o.key=n)).length:Nat):Int))) rfl (.int hcc)
  obtain ⟨F,hS⟩:=hS.nm [10,9,4,1,5,11] [0] rfl rfl
  exact ⟨(i+1),F,⟨by omega,trivial⟩,hS,by omega⟩
 have hil:i=t.ops.length:=by simp at hc0;omega
 refine wp_exit (Zk (Zk (Zq (Za (wp_seq ?_)))))
 refine Zb hS (qM rfl rfl (qN rfl rfl qZ)) hB [4] [0] rfl rfl fun a w F hS=>Za (wp_ret ?_)
 refine Zr hfr hS rfl rfl rfl (.int (by rw [hil,List.take_length]))
theorem Zb9 (l:List OpD) (n:Int) (hl:l.length≤1000000):FnP Tryz.prog 148 [.sl rOp l,.int .i64 n] (.int .i64 (((l.filter fun o=>!o.read && decide (o.key=n)).length:Nat):Int)):=by
 refine FnP.mk Tryz.func148 rfl Tryz.ntmps148 rfl ?_
 intro B a w F hB hfr hS
 have hll:l.length≤1000000:=hl
 refine wp_seq ?_
 refine Zb hS (qI qZ) hB [4,1,0] [0] rfl rfl fun a w F hS=>Za (wp_seq ?_)
 refine Zb hS (qI qZ) hB [5,4,1,0] [0] rfl rfl fun a w F hS=>Za (wp_seq (wp_seq ?_))
 refine Zb hS (qM rfl rfl (qu Tryz.underlying38 r1 (qJ qZ))) hB [10,9,8,5,4,1] [0] rfl rfl fun a w F hS=>Za (wp_block ?_)
 refine Zl (σ:=(Nat)) [1,4,8,9] [0] (fun s=>[(10,.pv (.int .i64 (s:Int))),(5,.pv (.int .i64 ((((l.take s).filter fun o=>!o.read && decide (o.key=n)).length:Nat):Int)))]) (fun s=>[]) (fun s=>s≤l.length∧(True)) (fun s=>l.length - s) (0) hS ⟨rfl,rfl,rfl,rfl,rfl,rfl,trivial⟩ ⟨rfl,trivial⟩ ⟨Nat.zero_le _,trivial⟩ ?_
 clear hS;intro i a w F hC hS
 try dsimp only at hC
 obtain ⟨F,hS⟩:=hS.nm [10,9,8,5,4,1] [0] rfl rfl
 try dsimp only at hS
 obtain ⟨hi,hq⟩:=hC
 refine wp_seq ?_
 refine Zb hS (qL r2) hB [11,10,9,8,5,4,1] [0] rfl rfl fun a w F hS=>Za (wp_seq ?_)
 refine Zd hS rfl (fun hc0=>?_) (fun hc0=>?_)
 ·skip
  have hil:i<l.length:=by simp at hc0;omega
  refine wp_skip (Za (wp_seq (wp_block (wp_seq ?_))))
  refine Zc hS (qy 4 Tryz.underlying38 r2 (qf (oR true 4 .t) r1 qz (qf (oH [.bool false,.int .i64 0,.int .i64 0,.int .i64 0] 101) trivial qz (qS 4 101 r2 r1 qZ)))) hB [10,9,8,7,5,4,1] [101,0] (fun _=>rfl) (fun _=>rfl) fun τ a w F hS=>?_
  try dsimp only [RS.sub,SF.sub,CF.sub,csub,Anc.sub,List.map,Zf,xL,xM,Nat.reduceAdd,xD,xE,xT,xU,xC,xN,zCF,ldSF,rInt,rOp,rTx] at hS
  generalize τ 7=v7 at hS
  try simp only [Int.toNat_natCast] at hS
  refine Za (wp_seq ?_)
  refine Zb hS (qg 0 101 r1 r1 (qa 101 r1 r1 (qf (o_not .t) r1 qz (qM rfl rfl (qv 1 101 rfl r2 r1 (qw 101 rfl r2 r1 (qm rfl rfl rfl rfl (qk rfl (fun h=>o_eql (.w h) (.w h)) r3 qz (qf (Zy .t .t) r2 qz qZ))))))))) hB [22,10,9,8,5,4,1] [0] rfl rfl fun a w F hS=>Za ?_
  refine Zd hS rfl (fun hc1=>?_) (fun hc1=>?_)
  ·skip
   have hstp:((l.take (i+1)).filter fun o=>!o.read && decide (o.key=n))=((l.take i).filter fun o=>!o.read && decide (o.key=n))++(if (!(Go.Gm.nth l i).read && decide ((Go.Gm.nth l i).key=n))=true then [(Go.Gm.nth l i)] else []):=by rw [Zt hil,List.filter_append];simp only [List.filter_cons,List.filter_nil]
   have hle:((l.take i).filter fun o=>!o.read && decide (o.key=n)).length≤i:=Nat.le_trans (List.length_filter_le _ _) (by rw [List.length_take];omega)
   have hBq:(!(Go.Gm.nth l i).read && decide ((Go.Gm.nth l i).key=n))=true:=hc1
   have hcc:IntKind.wrap .i64 (((((l.take i).filter fun o=>!o.read && decide (o.key=n)).length:Nat):Int)+1)=((((l.take (i+1)).filter fun o=>!o.read && decide (o.key=n)).length:Nat):Int):=by rw [hstp,if_pos hBq,List.length_append,ZP (by omega)];simp
   refine Zb hS (qM rfl rfl (qp r1 (qN rfl rfl qZ))) hB [10,9,8,5,4,1] [0] rfl rfl fun a w F hS=>Zi (Za ?_)
   refine Zb hS (qp r1 (qM rfl rfl qZ)) hB [10,9,8,5,4,1] [0] rfl rfl fun a w F hS=>Za ?_
   replace hS:=hS.ent (i:=10) (s':=.pv (.int .i64 ((i+1:Nat):Int))) rfl (.int (Ze (by omega)))
   replace hS:=hS.ent (i:=5) (s':=.pv (.int .i64 ((((l.take (i+1)).filter fun o=>!o.read && decide (o.key=n)).length:Nat):Int))) rfl (.int hcc)
   obtain ⟨F,hS⟩:=hS.nm [9,8,4,1,5,10] [0] rfl rfl
   exact ⟨(i+1),F,⟨by omega,trivial⟩,hS,by omega⟩
  have hstp:((l.take (i+1)).filter fun o=>!o.read && decide (o.key=n))=((l.take i).filter fun o=>!o.read && decide (o.key=n))++(if (!(Go.Gm.nth l i).read && decide ((Go.Gm.nth l i).key=n))=true then [(Go.Gm.nth l i)] else []):=by rw [Zt hil,List.filter_append];simp only [List.filter_cons,List.filter_nil]
  have hle:((l.take i).filter fun o=>!o.read && decide (o.key=n)).length≤i:=Nat.le_trans (List.length_filter_le _ _) (by rw [List.length_take];omega)
  have hBq:(!(Go.Gm.nth l i).read && decide ((Go.Gm.nth l i).key=n))=false:=hc1
  have hcc:((((l.take i).filter fun o=>!o.read && decide (o.key=n)).length:Nat):Int)=((((l.take (i+1)).filter fun o=>!o.read && decide (o.key=n)).length:Nat):Int):=by rw [hstp,if_neg (by rw [hBq];simp),List.append_nil]
  refine wp_skip (Zi (Za ?_))
  refine Zb hS (qp r1 (qM rfl rfl qZ)) hB [10,9,8,5,4,1] [0] rfl rfl fun a w F hS=>Za ?_
  replace hS:=hS.ent (i:=10) (s':=.pv (.int .i64 ((i+1:Nat):Int))) rfl (.int (Ze (by omega)))
  replace hS:=hS.ent (i:=5) (s':=.pv (.int .i64 ((((l.take (i+1)).filter fun o=>!o.read && decide (o.key=n)).length:Nat):Int))) rfl (.int hcc)
  obtain ⟨F,hS⟩:=hS.nm [9,8,4,1,5,10] [0] rfl rfl
  exact ⟨(i+1),F,⟨by omega,trivial⟩,hS,by omega⟩
 have hil:i=l.length:=by simp at hc0;omega
 refine wp_exit (Zk (Zk (Zq (Za (wp_seq ?_)))))
 refine Zb hS (qM rfl rfl (qN rfl rfl qZ)) hB [4] [0] rfl rfl fun a w F hS=>Za (wp_ret ?_)
 refine Zr hfr hS rfl rfl rfl (.int (by rw [hil,List.take_length]))
def wcnt (l:List OpD) (k:Int):Nat:=(l.filter fun o=>!o.read && decide (o.key=k)).length
theorem Zhx {l:List OpD} {i:Nat} (h:i<l.length) (k:Int):wcnt (l.take (i+1)) k=wcnt (l.take i) k+if (Go.Gm.nth l i).read=false∧(Go.Gm.nth l i).key=k then 1 else 0:=by
 unfold wcnt
 rw [Zt h,List.filter_append,List.length_append]
 congr 1
 by_cases h1:(Go.Gm.nth l i).read=false∧(Go.Gm.nth l i).key=k
 · rw [if_pos h1];simp [h1.1,h1.2]
 · rw [if_neg h1]
   have:(!(Go.Gm.nth l i).read && decide ((Go.Gm.nth l i).key=k))=false:=by
     cases hr:(Go.Gm.nth l i).read with
     | true=>rfl
     | false=>simp;exact fun e=>h1 ⟨hr,e⟩
   simp [this]
theorem Zm6 (l:List OpD) (i:Nat) (k:Int):wcnt (l.take i) k≤i:=Nat.le_trans (List.length_filter_le _ _) (by rw [List.length_take];omega)
def ZaG (id:Int):List OpD→List OpD→Int
 | _,[]=>0
 | s,o :: r=>if ZaZ o=false then 1 else if o.read=true∧o.tx=id∧(wcnt s o.key:Int)<o.nth then 6 else ZaG id (s ++ [o]) r
def ZR (t:TxD):Int:=if ¬ (1≤t.id∧t.id≤1048575) then 1 else if 4095<t.ops.length then 9 else ZaG t.id [] t.ops
theorem ZaU {id:Int} {l:List OpD} {i:Nat} (h:i<l.length):ZaG id (l.take i) (l.drop i)=if ZaZ (Go.Gm.nth l i)=false then 1 else if (Go.Gm.nth l i).read=true∧(Go.Gm.nth l i).tx=id∧(wcnt (l.take i) (Go.Gm.nth l i).key:Int)<(Go.Gm.nth l i).nth then 6 else ZaG id (l.take (i+1)) (l.drop (i+1)):=by
 rw [ZZ h,ZaG,Zt h]
theorem Ze3 {id:Int} {l:List OpD} {i:Nat} (h:i=l.length):ZaG id (l.take i) (l.drop i)=0:=by rw [h,List.drop_length];rfl
def ZfF (id:Int) (o:OpD):Bool:=(o.read && !decide (o.tx=0)) && !decide (o.tx=id)
def ZaA (id:Int) (out:List Zbz) (o:OpD):List Zbz:=if ZfF id o=true∧ofO o ∉ out then out ++ [ofO o] else out
def ZbO (id:Int) (l:List OpD):List Zbz:=l.foldl (ZaA id) []
def ZV (t:TxD):List Zbz:=ZbO t.id t.ops
theorem ZeR {id:Int} {l:List OpD} {i:Nat} (h:i<l.length):ZbO id (l.take (i+1))=ZaA id (ZbO id (l.take i)) (Go.Gm.nth l i):=by
 unfold ZbO
 rw [Zt h,List.foldl_append]
 rfl
theorem Zg0 (id:Int) (out:List Zbz) (o:OpD):(ZaA id out o).length≤out.length+1:=by
 unfold ZaA
 split <;> simp
theorem ZbR (id:Int) (l:List OpD) (i:Nat):(ZbO id (l.take i)).length≤i:=by
 have key:∀ (l:List OpD) (out:List Zbz),(l.foldl (ZaA id) out).length≤out.length+l.length:=by
   intro l
   induction l with
   | nil=>intro out;simp
   | cons x l ih=>
     intro out
     have h1:=ih (ZaA id out x)
     have h2:=Zg0 id out x
     rw [List.foldl_cons,List.length_cons];omega
 have:=key (l.take i) []
 rw [List.length_take] at this
 unfold ZbO
 simp at this ⊢
 omega
def bareT (t:TxD):TxD:={ t with ops:=t.ops.filter fun o=>!o.read }
structure ZaY where
 key:Int
 nth:Int
 deriving DecidableEq,Inhabited
def Za8 (p:ZaY):List Int:=[p.key,p.nth]
def ZcR (v:Zbz):List Int:=[v.tx,v.key,v.nth]
def Zb0 (es:List (GE ZaY Int)) (s:List OpD):Prop:=∀ k n,0≤n→(gGet (⟨k,n⟩:ZaY) es).getD 0=if n=0 then (wcnt s k:Int) else if n≤wcnt s k then 1 else 0
theorem Zle:Zb0 [] []:=fun k n h=>by
 show (0:Int)=_
 have:wcnt [] k=0:=rfl
 rw [this]
 split
 · rfl
 · rw [if_neg (by simp;omega)]
theorem ZlB {es:List (GE ZaY Int)} {l:List OpD} {i:Nat} (h:Zb0 es (l.take i)) (hi:i<l.length) (hr:(Go.Gm.nth l i).read=true):Zb0 es (l.take (i+1)):=fun k n hn=>by
 rw [h k n hn,Zhx hi,if_neg (c:=(Go.Gm.nth l i).read=false∧(Go.Gm.nth l i).key=k) (by simp [hr]),Nat.add_zero]
theorem Zkt {es es2:List (GE ZaY Int)} {l:List OpD} {i:Nat} {c:Int} (h:Zb0 es (l.take i)) (hi:i<l.length) (hr:(Go.Gm.nth l i).read=false) (hc:c=(wcnt (l.take i) (Go.Gm.nth l i).key:Int)+1)
   (he:∀ p,(gGet p es2).getD 0=if p = ⟨(Go.Gm.nth l i).key,c⟩ then 1 else if p = ⟨(Go.Gm.nth l i).key,0⟩ then c else (gGet p es).getD 0):Zb0 es2 (l.take (i+1)):=fun k n hn=>by
 have hk:=h k n hn
 rw [he,hk,Zhx hi]
 by_cases e:(Go.Gm.nth l i).key=k
 · rw [if_pos (c:=(Go.Gm.nth l i).read=false∧_) ⟨hr,e⟩]
   rw [e] at hc
   rw [e]
   by_cases e2:n=c
   · subst e2
     rw [if_pos rfl,if_neg (by omega),if_pos (by omega)]
   · rw [if_neg (by simp [e2])]
     by_cases e3:n=0
     · subst e3
       rw [if_pos rfl,if_pos rfl,hc];simp
     · rw [if_neg (by simp [e3]),if_neg e3,if_neg e3]
       by_cases e4:n≤(wcnt (l.take i) k:Int)
       · rw [if_pos e4,if_pos (by omega)]
       · rw [if_neg e4,if_neg (by omega)]
 · rw [if_neg (c:=(Go.Gm.nth l i).read=false∧_) (by simp [e]),Nat.add_zero,if_neg (by simp;exact fun h=>absurd h.symm e),if_neg (by simp;exact fun h=>absurd h.symm e)]
def Zdi (es:List (GE Zbz Int)) (i:Nat) (out:List Zbz):Prop:=∀ v,0≤(gGet v es).getD 0∧(gGet v es).getD 0≤i∧(0<(gGet v es).getD 0 ↔ v ∈ out)
theorem Zmi:Zdi [] 0 []:=fun v=>⟨Int.le_refl _,Int.le_refl _,by show (0:Int)<0 ↔ _;simp⟩
theorem Zmb {es:List (GE Zbz Int)} {i:Nat} {out:List Zbz} (h:Zdi es i out):Zdi es (i+1) out:=fun v=>⟨(h v).1,by have:=(h v).2.1;omega,(h v).2.2⟩
theorem ZmF {es es2:List (GE Zbz Int)} {i:Nat} {out:List Zbz} {v:Zbz} (h:Zdi es i out) (he:∀ u,(gGet u es2).getD 0=if u=v then (gGet v es).getD 0+1 else (gGet u es).getD 0):Zdi es2 (i+1) (if v ∈ out then out else out ++ [v]):=fun u=>by
 have h1:=h u
 have h2:=h v
 rw [he u]
 by_cases e:u=v
 · subst e
   rw [if_pos rfl]
   refine ⟨by omega,by omega,?_⟩
   constructor
   · intro _;split <;> simp_all
   · intro _;omega
 · rw [if_neg e]
   refine ⟨by omega,by omega,?_⟩
   rw [h1.2.2]
   split
   · rfl
   · simp [e]
theorem Zf7 {κ:Type} [DecidableEq κ] {k p:κ} {x:Int} (s:List (GE κ Int)×Nat):(gGet p (gSet k x (gEns 0 k s).1)).getD 0=if p=k then x else (gGet p s.1).getD 0:=by
 rw [ZjJ];split <;> rfl
theorem Zl9 {κ:Type} [DecidableEq κ] {k p:κ} {x:Int} (s:List (GE κ Int)×Nat):(gGet p (gPut k x s).1).getD 0=if p=k then x else (gGet p s.1).getD 0:=by
 rw [Zi9];split <;> rfl
theorem Zfl:ZmE Tryz.prog 124 (fun k=>∀ x ∈ Za8 k,inR .i64 x) (kvS Za8):=Zfr (n:=2) (fun _=>rfl) (fun a b h=>by cases a;cases b;simpa [Za8] using h) (by kernel_rfl)
theorem Zlk:ZmE Tryz.prog 128 (fun k=>∀ x ∈ ZcR k,inR .i64 x) (kvS ZcR):=Zfr (n:=3) (fun _=>rfl) (fun a b h=>by cases a;cases b;simpa [ZcR] using h) (by kernel_rfl)
theorem ZhG {es:List (GE ZaY Int)} {s:List OpD} {o:OpD} {id:Int} (h:Zb0 es s) (hk:ZaZ o=true) (hr:o.read=true) (hid:1≤id):(o.tx=id∧(gGet (⟨o.key,o.nth⟩:ZaY) es).getD 0=0) ↔ (o.read=true∧o.tx=id∧(wcnt s o.key:Int)<o.nth):=by
 have hb:=ZkZ hk
 have h1:=h o.key o.nth (by omega)
 constructor
 · rintro ⟨e1,e2⟩
   refine ⟨hr,e1,?_⟩
   have hn:1≤o.nth:=by
     rw [ZdY hr] at hk
     unfold ofO at hk
     rw [if_pos hr] at hk
     unfold Zbb at hk
     rw [if_neg (show ¬ o.tx=0 by omega)] at hk
     simp at hk
     omega
   rw [e2,if_neg (by omega)] at h1
   split at h1
   · cases h1
   · omega
 · rintro ⟨_,e1,e2⟩
   refine ⟨e1,?_⟩
   rw [h1,if_neg (by omega),if_neg (by omega)]
theorem Zhm (t:TxD):FnP Tryz.prog 43 [.agg (rTx t)] (.int .i64 (ZR t)):=by
 refine FnP.mk Tryz.func43 rfl Tryz.ntmps43 rfl ?_
 intro B a w F hB hfr hS
 refine wp_seq ?_
 refine Zc hS (qx 101 r1 (qI qZ)) hB [2,1] [101,0] (fun _=>rfl) (fun _=>rfl) fun τ a w F hS=>?_
 try dsimp only [RS.sub,SF.sub,CF.sub,csub,Anc.sub,List.map,zCF,rInt,rOp,rTx] at hS
 generalize τ 1=v1 at hS
 refine Za (wp_seq (wp_block (wp_seq ?_)))
 refine Zb hS (qg 0 101 r1 r1 (qa 101 r1 r1 (qf (Zb3 .t qi) r1 qz (qM rfl rfl (qv 0 101 rfl r2 r1 (qw 101 rfl r2 r1 (qk rfl (fun h=>ZaR (.w h) qi) r2 qz (qf (ZaI .t .t) r2 qz (qN rfl rfl qZ))))))))) hB [7,2,1] [101,0] rfl rfl fun a w F hS=>Za ?_
 refine Zd hS rfl (fun hc0=>?_) (fun hc0=>?_)
 ·skip
  have hg:1=ZR t:=by unfold ZR;rw [if_pos (by simp at hc0;omega)]
  refine wp_seq ?_
  refine Zb hS (qI qZ) hB [2,1] [101,0] rfl rfl fun a w F hS=>Za (wp_ret (Zm (Zg ?_)))
  refine Zr hfr hS rfl rfl rfl (.int hg)
 have hid:1≤t.id∧t.id≤1048575:=by simp at hc0;omega
 refine wp_seq ?_
 refine Zb hS (qg 2 101 r1 r1 (qa 101 r1 r1 (qu Tryz.underlying38 r1 (qf (ZaR .t qi) r1 qz (qN rfl rfl qZ))))) hB [16,2,1] [101,0] rfl rfl fun a w F hS=>Za ?_
 refine Zd hS rfl (fun hc1=>?_) (fun hc1=>?_)
 ·skip
  have hg:9=ZR t:=by unfold ZR;rw [if_neg (by omega),if_pos (by simp at hc1;omega)]
  refine wp_seq ?_
  refine Zb hS (qI qZ) hB [2,1] [101,0] rfl rfl fun a w F hS=>Za (wp_ret (Zm (Zg ?_)))
  refine Zr hfr hS rfl rfl rfl (.int hg)
 have hlen:t.ops.length≤4095:=by simp at hc1;omega
 have hT:ZR t=ZaG t.id [] t.ops:=by unfold ZR;rw [if_neg (by omega),if_neg (by omega)]
 refine wp_skip (Zi (Za (wp_seq ?_)))
 refine Zc hS (qf (ZdK (ek:=(fun n:Int=>PV.int .i64 n)) (ok:=(fun k=>∀ x ∈ Za8 k,inR .i64 x)) (kv:=(kvS Za8)) 102) trivial qz (qN rfl rfl qZ)) hB [3,2,1] [102,101,0] (fun _=>rfl) (fun _=>rfl) fun τ a w F hS=>?_
 try dsimp only [RS.sub,SF.sub,CF.sub,csub,Anc.sub,List.map,Zf,xL,xM,Nat.reduceAdd,xD,xE,xT,xU,xC,xN,zCF,rInt,rOp,rTx] at hS
 generalize τ 21=v21 at hS
 refine Za (wp_seq (wp_seq ?_))
 refine Zb hS (qg 2 101 r1 r1 (qa 101 r1 r1 (qu Tryz.underlying38 r1 (qJ qZ)))) hB [25,24,23,3,2,1] [102,101,0] rfl rfl fun a w F hS=>Za (wp_block ?_)
 refine Zl (σ:=(Nat)×(List (GE ZaY Int))×(Nat)) [1,2,3,23,24] [0,101] (fun s=>[(25,.pv (.int .i64 (s.1:Int)))]) (fun s=>[(102,.ob (.val v21) (ZdC (fun n:Int=>PV.int .i64 n) (fun k=>∀ x ∈ Za8 k,inR .i64 x) (kvS Za8) s.2.1 s.2.2))]) (fun s=>s.1≤t.ops.length∧(ZaG t.id [] t.ops=ZaG t.id (t.ops.take s.1) (t.ops.drop s.1)∧Zb0 s.2.1 (t.ops.take s.1))) (fun s=>t.ops.length - s.1) ((0),([]),(0)) hS ⟨rfl,rfl,rfl,rfl,rfl,rfl,trivial⟩ ⟨rfl,rfl,rfl,trivial⟩ ⟨Nat.zero_le _,⟨rfl,Zle⟩⟩ ?_
 clear hS;intro s a w F hC hS
 obtain ⟨i,es,ck⟩:=s
 try dsimp only at hC
 obtain ⟨F,hS⟩:=hS.nm [25,24,23,3,2,1] [102,101,0] rfl rfl
 try dsimp only at hS
 obtain ⟨hi,hq⟩:=hC
 obtain ⟨hrt,hsp⟩:=hq
 have hwl:=fun k=>Zm6 t.ops i k
 refine wp_seq ?_
 refine Zb hS (qL r2) hB [26,25,24,23,3,2,1] [102,101,0] rfl rfl fun a w F hS=>Za (wp_seq ?_)
 refine Zd hS rfl (fun hc2=>?_) (fun hc2=>?_)
 ·skip
  have hil:i<t.ops.length:=by simp at hc2;omega
  refine wp_skip (Za (wp_seq (wp_block (wp_seq ?_))))
  refine Zc hS (qy 4 Tryz.underlying38 r2 (qf (oR true 4 .t) r1 qz (qf (oH [.bool false,.int .i64 0,.int .i64 0,.int .i64 0] 103) trivial qz (qS 4 103 r2 r1 qZ)))) hB [25,24,23,5,3,2,1] [103,102,101,0] (fun _=>rfl) (fun _=>rfl) fun τ a w F hS=>?_
  try dsimp only [RS.sub,SF.sub,CF.sub,csub,Anc.sub,List.map,Zf,xL,xM,Nat.reduceAdd,xD,xE,xT,xU,xC,xN,zCF,ldSF,rInt,rOp,rTx] at hS
  generalize τ 5=v5 at hS
  try simp only [Int.toNat_natCast] at hS
  refine Za (wp_seq (wp_seq ?_))
  refine Zb hS (qe 4 103 r1 r1 (qf (oP (ZkH (Go.Gm.nth t.ops i)) Tryz.func97 (Args.one (.pagg .t))) r1 qz (qN rfl rfl qZ))) hB [25,24,23,6,5,3,2,1] [103,102,101,0] rfl rfl fun a w F hS=>Za (wp_seq ?_)
  refine Zb hS (qM rfl rfl (qf (o_neq .t qi) r1 qz qZ)) hB [32,25,24,23,6,5,3,2,1] [103,102,101,0] rfl rfl fun a w F hS=>Za ?_
  refine Zd hS rfl (fun hc3=>?_) (fun hc3=>?_)
  ·skip
   have hk:ZaZ (Go.Gm.nth t.ops i)=false:=by unfold Zcq at hc3;simpa using hc3
   have hg:Zcq (Go.Gm.nth t.ops i)=ZR t:=by rw [hT,hrt,ZaU hil,if_pos hk];unfold Zcq;rw [hk];rfl
   refine wp_seq ?_
   refine Zb hS (qM rfl rfl (qN rfl rfl qZ)) hB [25,24,23,5,3,2,1] [103,102,101,0] rfl rfl fun a w F hS=>Za (wp_ret (Zg (Zm (Zg (Zg (Zm (Zg ?_)))))))
   refine Zr hfr hS rfl rfl rfl (.int hg)
  have hk:ZaZ (Go.Gm.nth t.ops i)=true:=by unfold Zcq at hc3;simpa using hc3
  refine wp_skip (Za (wp_seq (wp_seq ?_)))
  refine Zb hS (qg 0 103 r1 r1 (qa 103 r1 r1 (qf (o_not .t) r1 qz qZ))) hB [36,25,24,23,5,3,2,1] [103,102,101,0] rfl rfl fun a w F hS=>Za ?_
  refine Zd hS rfl (fun hc4=>?_) (fun hc4=>?_)
  ·skip
   have hr:(Go.Gm.nth t.ops i).read=false:=by simpa using hc4
   have hm0:=hsp (Go.Gm.nth t.ops i).key 0 (Int.le_refl _)
   rw [if_pos rfl] at hm0
   have hwc:IntKind.wrap .i64 (((gGet (⟨(Go.Gm.nth t.ops i).key,0⟩:ZaY) es).getD 0)+1)=(wcnt (t.ops.take i) (Go.Gm.nth t.ops i).key:Int)+1:=by rw [hm0];exact ZP (by have:=hwl (Go.Gm.nth t.ops i).key;omega)
   refine wp_seq ?_
   replace hS:=hS.turnZ 102 (0) (⟨(Go.Gm.nth t.ops i).key,0⟩:ZaY) rfl
   refine ZeU 102 8 (m1:=1) (m2:=2) (by kernel_rfl) hS (by kernel_rfl) (qM rfl rfl (qg 1 103 r1 r1 (qa 103 r1 r1 (qf (oB [(0,.tmp 39),(1,_)] [.int .i64 0,.int .i64 0] [(0,1),(1,1)] (.one rfl .t one_int (by kernel_rfl) (.one rfl qi one_int (by kernel_rfl) .nil))) r1 qz (qf (ZhE (ek:=(fun n:Int=>PV.int .i64 n)) (z0:=(0)) 102 Tryz.underlying121 Zfl (by kernel_rfl) (fun _ _=>⟨rfl,ZhT⟩) .is (Z7.agg (enc:=Za8) (k:=(⟨(Go.Gm.nth t.ops i).key,0⟩:ZaY)) (.pagg .t) rfl)) r2 r1 (qp r1 (qf (Zfh (ek:=(fun n:Int=>PV.int .i64 n)) (z0:=(0)) 102 Tryz.underlying121 Zfl (by kernel_rfl) (fun _ _=>⟨rfl,ZhT⟩) .is (Z7.agg (enc:=Za8) (k:=(⟨(Go.Gm.nth t.ops i).key,0⟩:ZaY)) (.pagg .t) rfl) (by intros;first | rfl | simp [Anc.v,upd])) r2 r1 (qf (o_extract .t rfl) r1 qz (qf (Zde 102 (Zfq _ _ _) .is .t .t) r3 r1 qZ))))))))) (by kernel_rfl) (by kernel_rfl) (by kernel_rfl) rfl rfl rfl (fun _ _ _ _ h=>.inr h) (by rw [hB];kernel_rfl) fun a w F hS=>?_
   obtain ⟨F,hS⟩:=hS.nm [25,24,23,5,3,2,1] [103,102,101,0] rfl rfl
   try dsimp only [List.map,Zf,xL,xM,Nat.reduceAdd,xD,xE,xT,xU,xC,xN,zCF,ldSF,rInt,rOp,rTx] at hS
   obtain ⟨es1,he1⟩:∃ z,z=gSet (⟨(Go.Gm.nth t.ops i).key,0⟩:ZaY) (IntKind.wrap .i64 (((gGet (⟨(Go.Gm.nth t.ops i).key,0⟩:ZaY) es).getD 0)+1)) (gEns 0 (⟨(Go.Gm.nth t.ops i).key,0⟩:ZaY) (es,ck)).1:=⟨_,rfl⟩
   obtain ⟨ck1,hc1⟩:∃ z,z=(gEns 0 (⟨(Go.Gm.nth t.ops i).key,0⟩:ZaY) (es,ck)).2:=⟨_,rfl⟩
   rw [← he1,← hc1] at hS
   refine Za (wp_seq ?_)
   refine ZE hS (qM rfl rfl (qg 1 103 r1 r1 (qa 103 r1 r1 (qM rfl rfl (qg 1 103 r1 r1 (qa 103 r1 r1 (qf (oB [(0,.tmp 50),(1,_)] [.int .i64 0,.int .i64 0] [(0,1),(1,1)] (.one rfl .t one_int (by kernel_rfl) (.one rfl qi one_int (by kernel_rfl) .nil))) r1 qz (qf (Zbn (ek:=(fun n:Int=>PV.int .i64 n)) (z0:=(0)) 102 Tryz.underlying121 Zfl (by kernel_rfl) (fun _ _=>⟨rfl,ZhT⟩) .is (Z7.agg (enc:=Za8) (k:=(⟨(Go.Gm.nth t.ops i).key,0⟩:ZaY)) (.pagg .t) rfl)) r2 r1 (qf (oB [(0,.tmp 47),(1,.tmp 52)] [.int .i64 0,.int .i64 0] [(0,1),(1,1)] (.one rfl .t one_int (by kernel_rfl) (.one rfl .t one_int (by kernel_rfl) .nil))) r2 qz (qf (Zd3 (ek:=(fun n:Int=>PV.int .i64 n)) 102 Tryz.underlying121 Zfl .is (Z7.agg (enc:=Za8) (k:=(⟨(Go.Gm.nth t.ops i).key,(gGet (⟨(Go.Gm.nth t.ops i).key,0⟩:ZaY) es1).getD 0⟩:ZaY)) (.pagg .t) rfl) qi) r2 r1 qZ)))))))))) hB [25,24,23,5,3,2,1] [103,102,101,0] rfl rfl fun a w F hS=>?_
   try dsimp only [List.map,Zf,xL,xM,Nat.reduceAdd,xD,xE,xT,xU,xC,xN,zCF,ldSF,rInt,rOp,rTx] at hS
   have hv1:∀ p,(gGet p es1).getD 0=if p=(⟨(Go.Gm.nth t.ops i).key,0⟩:ZaY) then (wcnt (t.ops.take i) (Go.Gm.nth t.ops i).key:Int)+1 else (gGet p es).getD 0:=fun p=>by rw [he1,Zf7,hwc]
   obtain ⟨es2,he2⟩:∃ z,z=(gPut (⟨(Go.Gm.nth t.ops i).key,(gGet (⟨(Go.Gm.nth t.ops i).key,0⟩:ZaY) es1).getD 0⟩:ZaY) 1 (es1,ck1)).1:=⟨_,rfl⟩
   obtain ⟨ck2,hc2⟩:∃ z,z=(gPut (⟨(Go.Gm.nth t.ops i).key,(gGet (⟨(Go.Gm.nth t.ops i).key,0⟩:ZaY) es1).getD 0⟩:ZaY) 1 (es1,ck1)).2:=⟨_,rfl⟩
   rw [← he2,← hc2] at hS
   have hR2:ZaG t.id [] t.ops=ZaG t.id (t.ops.take (i+1)) (t.ops.drop (i+1))∧Zb0 es2 (t.ops.take (i+1)):=⟨by rw [hrt,ZaU hil,if_neg (by rw [hk];decide),if_neg (by rw [hr];simp)],Zkt hsp hil hr rfl (fun p=>by rw [he2,Zl9];dsimp only;rw [hv1,hv1,if_pos rfl])⟩
   refine Za (wp_exit (Zk (Zq (Za ?_))))
   refine Zb hS (qp r1 (qM rfl rfl qZ)) hB [25,24,23,3,2,1] [103,102,101,0] rfl rfl fun a w F hS=>Za ?_
   replace hS:=hS.ent (i:=25) (s':=.pv (.int .i64 ((i+1:Nat):Int))) rfl (.int (Ze (by omega)))
   obtain ⟨F,hS⟩:=hS.nm [24,23,3,2,1,25] [101,0,102] rfl rfl
   exact ⟨((i+1),(es2),(ck2)),F,⟨by omega,hR2⟩,hS,by omega⟩
  have hr:(Go.Gm.nth t.ops i).read=true:=by simpa using hc4
  refine wp_skip (Za (wp_seq ?_))
  refine Zb hS (qg 2 103 r1 r1 (qa 103 r1 r1 (qg 0 101 r1 r1 (qa 101 r1 r1 (qf (o_eql .t .t) r2 qz (qM rfl rfl (qm rfl rfl rfl rfl (qv 1 103 rfl r2 r1 (qw 103 rfl r2 r1 (qv 3 103 rfl r2 r1 (qw 103 rfl r2 r1 (qk rfl (fun h=>Zlw (r:=[(0,.tmp 62),(1,.tmp 64)]) (zs:=[.int .i64 0,.int .i64 0]) (pl:=[(0,1),(1,1)]) (by kernel_rfl) (by kernel_rfl) (.one rfl (.w h) one_int (by kernel_rfl) (.one rfl (.w h) one_int (by kernel_rfl) .nil)) (by rfl)) r3 qz (qk rfl (fun h=>Zbn (ek:=(fun n:Int=>PV.int .i64 n)) (z0:=(0)) 102 Tryz.underlying121 Zfl (by kernel_rfl) (fun _ _=>⟨rfl,ZhT⟩) (.w h .is) (Z7.agg (enc:=Za8) (k:=(⟨(Go.Gm.nth t.ops i).key,(Go.Gm.nth t.ops i).nth⟩:ZaY)) (.pagg (.w h)) rfl)) r3 r1 (qk rfl (fun h=>o_eql (.w h) qi) r2 qz (qf (Zy .t .t) r2 qz qZ))))))))))))))) hB [68,25,24,23,3,2,1] [103,102,101,0] rfl rfl fun a w F hS=>Za ?_
  refine Zd hS rfl (fun hc5=>?_) (fun hc5=>?_)
  ·skip
   have hg:6=ZR t:=by rw [hT,hrt,ZaU hil,if_neg (by rw [hk];decide),if_pos ((ZhG hsp hk hr hid.1).1 (by simpa using hc5))]
   refine wp_seq ?_
   refine Zb hS (qI qZ) hB [25,24,23,3,2,1] [103,102,101,0] rfl rfl fun a w F hS=>Za (wp_ret (Zm (Zg (Zg (Zm (Zg ?_))))))
   refine Zr hfr hS rfl rfl rfl (.int hg)
  have hno:=fun h9=>(by simpa using hc5:¬ ((Go.Gm.nth t.ops i).tx=t.id∧(gGet (⟨(Go.Gm.nth t.ops i).key,(Go.Gm.nth t.ops i).nth⟩:ZaY) es).getD 0=0)) ((ZhG hsp hk hr hid.1).2 h9)
  obtain ⟨es2,he2⟩:∃ z,z=es:=⟨_,rfl⟩
  obtain ⟨ck2,hc2⟩:∃ z,z=ck:=⟨_,rfl⟩
  have hR2:ZaG t.id [] t.ops=ZaG t.id (t.ops.take (i+1)) (t.ops.drop (i+1))∧Zb0 es2 (t.ops.take (i+1)):=⟨by rw [hrt,ZaU hil,if_neg (by rw [hk];decide),if_neg hno],by rw [he2];exact ZlB hsp hil hr⟩
  rw [← he2,← hc2] at hS
  refine wp_skip (Zi (Za ?_))
  refine Zb hS (qp r1 (qM rfl rfl qZ)) hB [25,24,23,3,2,1] [103,102,101,0] rfl rfl fun a w F hS=>Za ?_
  replace hS:=hS.ent (i:=25) (s':=.pv (.int .i64 ((i+1:Nat):Int))) rfl (.int (Ze (by omega)))
  obtain ⟨F,hS⟩:=hS.nm [24,23,3,2,1,25] [101,0,102] rfl rfl
  exact ⟨((i+1),(es2),(ck2)),F,⟨by omega,hR2⟩,hS,by omega⟩
 have hil:i=t.ops.length:=by simp at hc2;omega
 have hg:0=ZR t:=by rw [hT,hrt,Ze3 hil]
 refine wp_exit (Zk (Zk (Zq (Za (wp_seq ?_)))))
 refine Zb hS (qI qZ) hB [2] [102,101,0] rfl rfl fun a w F hS=>Za (wp_ret ?_)
 refine Zr hfr hS rfl rfl rfl (.int hg)
theorem Zcj (t:TxD):FnP Tryz.prog 86 [.agg (rTx t)] (.int .i64 (ZR t)):=by
 refine FnP.mk Tryz.func86 rfl Tryz.ntmps86 rfl ?_
 intro B a w F hB hfr hS
 refine wp_seq ?_
 refine Zc hS (qx 101 r1 (qI qZ)) hB [2,1] [101,0] (fun _=>rfl) (fun _=>rfl) fun τ a w F hS=>?_
 try dsimp only [RS.sub,SF.sub,CF.sub,csub,Anc.sub,List.map,zCF,rInt,rOp,rTx] at hS
 generalize τ 1=v1 at hS
 refine Za (wp_seq (wp_seq ?_))
 refine Zb hS (qg 0 101 r1 r1 (qa 101 r1 r1 (qf (oP (ZdN t.id) Tryz.func146 (Args.one .t)) r1 qz (qf (o_not .t) r1 qz qZ)))) hB [8,2,1] [101,0] rfl rfl fun a w F hS=>Za ?_
 refine Zd hS rfl (fun hc0=>?_) (fun hc0=>?_)
 ·skip
  have hg:1=ZR t:=by unfold ZR;rw [if_pos (by rw [← ZeH];simpa using hc0)]
  refine wp_seq ?_
  refine Zb hS (qI qZ) hB [2,1] [101,0] rfl rfl fun a w F hS=>Za (wp_ret (Zg ?_))
  refine Zr hfr hS rfl rfl rfl (.int hg)
 have hid:1≤t.id∧t.id≤1048575:=by rw [← ZeH];simpa using hc0
 refine wp_skip (Za (wp_seq (wp_seq ?_)))
 refine Zb hS (qg 2 101 r1 r1 (qa 101 r1 r1 (qu Tryz.underlying38 r1 (qf (ZaR .t qi) r1 qz qZ)))) hB [12,2,1] [101,0] rfl rfl fun a w F hS=>Za ?_
 refine Zd hS rfl (fun hc1=>?_) (fun hc1=>?_)
 ·skip
  have hg:9=ZR t:=by unfold ZR;rw [if_neg (by omega),if_pos (by simp at hc1;omega)]
  refine wp_seq ?_
  refine Zb hS (qI qZ) hB [2,1] [101,0] rfl rfl fun a w F hS=>Za (wp_ret (Zg ?_))
  refine Zr hfr hS rfl rfl rfl (.int hg)
 have hlen:t.ops.length≤4095:=by simp at hc1;omega
 have hT:ZR t=ZaG t.id [] t.ops:=by unfold ZR;rw [if_neg (by omega),if_neg (by omega)]
 refine wp_skip (Za (wp_seq (wp_seq ?_)))
 refine Zb hS (qg 2 101 r1 r1 (qa 101 r1 r1 (qu Tryz.underlying38 r1 (qJ qZ)))) hB [16,15,14,2,1] [101,0] rfl rfl fun a w F hS=>Za (wp_block ?_)
 refine Zl (σ:=(Nat)) [1,2,14,15] [0,101] (fun s=>[(16,.pv (.int .i64 (s:Int)))]) (fun s=>[]) (fun s=>s≤t.ops.length∧(ZaG t.id [] t.ops=ZaG t.id (t.ops.take s) (t.ops.drop s))) (fun s=>t.ops.length - s) (0) hS ⟨rfl,rfl,rfl,rfl,rfl,trivial⟩ ⟨rfl,rfl,trivial⟩ ⟨Nat.zero_le _,rfl⟩ ?_
 clear hS;intro i a w F hC hS
 try dsimp only at hC
 obtain ⟨F,hS⟩:=hS.nm [16,15,14,2,1] [101,0] rfl rfl
 try dsimp only at hS
 obtain ⟨hi,hq⟩:=hC
 have hrt:=hq
 refine wp_seq ?_
 refine Zb hS (qL r2) hB [17,16,15,14,2,1] [101,0] rfl rfl fun a w F hS=>Za (wp_seq ?_)
 refine Zd hS rfl (fun hc2=>?_) (fun hc2=>?_)
 ·skip
  have hil:i<t.ops.length:=by simp at hc2;omega
  refine wp_skip (Za (wp_seq (wp_block (wp_seq ?_))))
  refine Zc hS (qM rfl rfl (qy 4 Tryz.underlying38 r2 (qf (oR true 4 .t) r1 qz (qf (oH [.bool false,.int .i64 0,.int .i64 0,.int .i64 0] 102) trivial qz (qN rfl rfl (qS 4 102 r2 r1 qZ)))))) hB [16,15,14,4,3,2,1] [102,101,0] (fun _=>rfl) (fun _=>rfl) fun τ a w F hS=>?_
  try dsimp only [RS.sub,SF.sub,CF.sub,csub,Anc.sub,List.map,Zf,xL,xM,Nat.reduceAdd,xD,xE,xT,xU,xC,xN,zCF,ldSF,rInt,rOp,rTx] at hS
  generalize τ 4=v4 at hS
  try simp only [Int.toNat_natCast] at hS
  refine Za (wp_seq (wp_seq ?_))
  refine Zb hS (qe 4 102 r1 r1 (qf (oP (ZhL (Go.Gm.nth t.ops i)) Tryz.func147 (Args.one (.pagg .t))) r1 qz (qf (o_not .t) r1 qz qZ))) hB [23,16,15,14,4,3,2,1] [102,101,0] rfl rfl fun a w F hS=>Za ?_
  refine Zd hS rfl (fun hc3=>?_) (fun hc3=>?_)
  ·skip
   have hk:ZaZ (Go.Gm.nth t.ops i)=false:=by simpa using hc3
   have hg:1=ZR t:=by rw [hT,hrt,ZaU hil,if_pos hk]
   refine wp_seq ?_
   refine Zb hS (qI qZ) hB [16,15,14,4,3,2,1] [102,101,0] rfl rfl fun a w F hS=>Za (wp_ret (Zg (Zm (Zg (Zg (Zm (Zg ?_)))))))
   refine Zr hfr hS rfl rfl rfl (.int hg)
  have hk:ZaZ (Go.Gm.nth t.ops i)=true:=by simpa using hc3
  refine wp_skip (Za (wp_seq ?_))
  refine ZE hS (qg 0 102 r1 r1 (qa 102 r1 r1 (qM rfl rfl (qv 2 102 rfl r2 r1 (qw 102 rfl r2 r1 (qv 0 101 rfl r2 r1 (qw 101 rfl r2 r1 (qk rfl (fun h=>o_eql (.w h) (.w h)) r3 qz (qf (Zy .t .t) r2 qz (qM rfl rfl (qv 3 102 rfl r2 r1 (qw 102 rfl r2 r1 (qv 2 101 rfl r2 r1 (qw 101 rfl r2 r1 (qm rfl rfl rfl rfl (qk rfl (fun h=>ZcL (sz:=4) (.mk Tryz.underlying38 (by kernel_rfl)) (by intro x;rfl) (.w h) (.w h) (by omega) (by omega)) r3 qz (qv 1 102 rfl r2 r1 (qw 102 rfl r2 r1 (qk rfl (fun h=>oP (Zb9 (t.ops.take i) (Go.Gm.nth t.ops i).key (by rw [List.length_take];omega)) Tryz.func148 (Args.two (.w h) (.w h))) r3 qz (qk rfl (fun h=>ZaR (.w h) (.w h)) r3 qz (qf (Zy .t .t) r2 qz qZ))))))))))))))))))))) hB [44,16,15,14,2,1] [102,101,0] rfl rfl fun a w F hS=>?_
  try dsimp only [List.map,xD,xE,xT,xU,ldSF,rInt,rOp,rTx] at hS
  refine Za ?_
  refine Zd hS rfl (fun hc4=>?_) (fun hc4=>?_)
  ·skip
   have hyes:(Go.Gm.nth t.ops i).read=true∧(Go.Gm.nth t.ops i).tx=t.id∧(wcnt (t.ops.take i) (Go.Gm.nth t.ops i).key:Int)<(Go.Gm.nth t.ops i).nth:=by unfold wcnt;simpa [and_assoc] using hc4
   have hg:6=ZR t:=by rw [hT,hrt,ZaU hil,if_neg (by rw [hk];decide),if_pos hyes]
   refine wp_seq ?_
   refine Zb hS (qI qZ) hB [16,15,14,2,1] [102,101,0] rfl rfl fun a w F hS=>Za (wp_ret (Zm (Zg (Zg (Zm (Zg ?_))))))
   refine Zr hfr hS rfl rfl rfl (.int hg)
  have hno:¬ ((Go.Gm.nth t.ops i).read=true∧(Go.Gm.nth t.ops i).tx=t.id∧(wcnt (t.ops.take i) (Go.Gm.nth t.ops i).key:Int)<(Go.Gm.nth t.ops i).nth):=by unfold wcnt;intro h9;have h8:=hc4;simp [h9.1,h9.2.1] at h8;omega
  refine wp_skip (Zi (Za ?_))
  refine Zb hS (qp r1 (qM rfl rfl qZ)) hB [16,15,14,2,1] [102,101,0] rfl rfl fun a w F hS=>Za ?_
  replace hS:=hS.ent (i:=16) (s':=.pv (.int .i64 ((i+1:Nat):Int))) rfl (.int (Ze (by omega)))
  obtain ⟨F,hS⟩:=hS.nm [15,14,2,1,16] [101,0] rfl rfl
  exact ⟨(i+1),F,⟨by omega,(by rw [hrt,ZaU hil,if_neg (by rw [hk];decide),if_neg hno])⟩,hS,by omega⟩
 have hil:i=t.ops.length:=by simp at hc2;omega
 have hg:0=ZR t:=by rw [hT,hrt,Ze3 hil]
 refine wp_exit (Zk (Zk (Zq (Za (wp_seq ?_)))))
 refine Zb hS (qI qZ) hB [2] [101,0] rfl rfl fun a w F hS=>Za (wp_ret ?_)
 refine Zr hfr hS rfl rfl rfl (.int hg)
theorem Zlr {u v:Zbz} {r:Bool} (h:(decide (u.tx=v.tx) && (decide (u.key=v.key) && (decide (u.nth=v.nth) && true)))=r):r=decide (u=v):=by
 cases u;cases v
 rw [← h,Bool.eq_iff_iff]
 simp
theorem Zmh (l:List Zbz) (v:Zbz):FnP Tryz.prog 191 [.sl Zv l,.agg (Zv v)] (.bool (decide (v ∈ l))):=by
 refine FnP.mk Tryz.func191 rfl Tryz.ntmps191 rfl ?_
 intro B a w F hB hfr hS
 have hll:=Sat.lenSl hS (i:=0) rfl
 refine wp_seq ?_
 refine Zc hS (qx 101 r1 qB) hB [4,3,0] [101,0] (fun _=>rfl) (fun _=>rfl) fun τ a w F hS=>?_
 try dsimp only [RS.sub,SF.sub,CF.sub,csub,Anc.sub,List.map,zCF,Zv] at hS
 generalize τ 3=v3 at hS
 refine Za (wp_seq (wp_seq ?_))
 refine Zb hS (qM rfl rfl (qu Tryz.underlying126 r1 (qJ qZ))) hB [9,8,7,4,3] [101,0] rfl rfl fun a w F hS=>Za (wp_block ?_)
 refine Zl (σ:=(Nat)) [3,4,7,8] [0,101] (fun s=>[(9,.pv (.int .i64 (s:Int)))]) (fun s=>[]) (fun s=>s≤l.length∧(∀ k,k<s→Go.Gm.nth l k≠v)) (fun s=>l.length - s) (0) hS ⟨rfl,rfl,rfl,rfl,rfl,trivial⟩ ⟨rfl,rfl,trivial⟩ ⟨Nat.zero_le _,fun k hk=>absurd hk (Nat.not_lt_zero k)⟩ ?_
 clear hS;intro i a w F hC hS
 try dsimp only at hC
 obtain ⟨F,hS⟩:=hS.nm [9,8,7,4,3] [101,0] rfl rfl
 try dsimp only at hS
 obtain ⟨hi,hq⟩:=hC
 refine wp_seq ?_
 refine Zb hS (qL r2) hB [10,9,8,7,4,3] [101,0] rfl rfl fun a w F hS=>Za (wp_seq ?_)
 refine Zd hS rfl (fun hc0=>?_) (fun hc0=>?_)
 ·skip
  have hil:i<l.length:=by simp at hc0;omega
  refine wp_skip (Za (wp_seq (wp_block (wp_seq ?_))))
  refine Zc hS (qy 3 Tryz.underlying126 r2 (qf (oR true 3 .t) r1 qz (qf (oH [.int .i64 0,.int .i64 0,.int .i64 0] 102) trivial qz (qS 3 102 r2 r1 qZ)))) hB [9,8,7,6,4,3] [102,101,0] (fun _=>rfl) (fun _=>rfl) fun τ a w F hS=>?_
  try dsimp only [RS.sub,SF.sub,CF.sub,csub,Anc.sub,List.map,Zf,xL,xM,Nat.reduceAdd,xD,xE,xT,xU,xC,xN,zCF,ldSF,Zv] at hS
  generalize τ 6=v6 at hS
  try simp only [Int.toNat_natCast] at hS
  refine Za (wp_seq ?_)
  refine Zb hS (qe 3 102 r1 r1 (qe 3 101 r1 r1 (qf (ZnV (ks:=[true,true,true]) (by kernel_rfl) .t .t (.int (.int (.int .nil)))) r2 qz qZ))) hB [15,9,8,7,4,3] [101,0] rfl rfl fun a w F hS=>Za ?_
  refine Zd hS rfl (fun hc1=>?_) (fun hc1=>?_)
  ·skip
   have hg:true=decide (v ∈ l):=(decide_eq_true (by have h9:=(Zlr hc1).symm;rw [decide_eq_true_eq] at h9;rw [← h9];exact ZM hil)).symm
   refine wp_seq ?_
   refine Zb hS qB hB [9,8,7,4,3] [101,0] rfl rfl fun a w F hS=>Za (wp_ret (Zm (Zg (Zg (Zm (Zg ?_))))))
   refine Zr hfr hS rfl rfl rfl (.bool hg)
  have hne:Go.Gm.nth l i≠v:=by have h9:=(Zlr hc1).symm;rwa [decide_eq_false_iff_not] at h9
  refine wp_skip (Zi (Za ?_))
  refine Zb hS (qp r1 (qM rfl rfl qZ)) hB [9,8,7,4,3] [101,0] rfl rfl fun a w F hS=>Za ?_
  replace hS:=hS.ent (i:=9) (s':=.pv (.int .i64 ((i+1:Nat):Int))) rfl (.int (Ze (by omega)))
  obtain ⟨F,hS⟩:=hS.nm [8,7,4,3,9] [101,0] rfl rfl
  exact ⟨(i+1),F,⟨by omega,(fun k hk=>by rcases Nat.lt_or_eq_of_le (Nat.le_of_lt_succ hk) with h | h;exact hq k h;rw [h];exact hne)⟩,hS,by omega⟩
 have hil:i=l.length:=by simp at hc0;omega
 have hg:false=decide (v ∈ l):=by
   rw [eq_comm,decide_eq_false_iff_not]
   intro hv
   obtain ⟨k,hk,e⟩:=List.getElem_of_mem hv
   exact hq k (by simp at hc0;omega) (by rw [Zz hk];exact e)
 refine wp_exit (Zk (Zk (Zq (Za (wp_seq ?_)))))
 refine Zb hS qB hB [4] [101,0] rfl rfl fun a w F hS=>Za (wp_ret ?_)
 refine Zr hfr hS rfl rfl rfl (.bool hg)
theorem Zhg (t:TxD) (hl:t.ops.length≤1000000):FnP Tryz.prog 99 [.agg (rTx t)] (.sl Zv (ZV t)):=by
 refine FnP.mk Tryz.func99 rfl Tryz.ntmps99 rfl ?_
 intro B a w F hB hfr hS
 refine wp_seq ?_
 refine Zc hS (qx 101 r1 (qC qZ)) hB [2,1] [101,0] (fun _=>rfl) (fun _=>rfl) fun τ a w F hS=>?_
 try dsimp only [RS.sub,SF.sub,CF.sub,csub,Anc.sub,List.map,zCF,rInt,rOp,rTx,Zv] at hS
 generalize τ 1=v1 at hS
 refine Za (wp_seq ?_)
 refine Zb hS (qC qZ) hB [3,2,1] [101,0] rfl rfl fun a w F hS=>Za (wp_seq ?_)
 refine Zc hS (qf (ZdK (ek:=(fun n:Int=>PV.int .i64 n)) (ok:=(fun k=>∀ x ∈ ZcR k,inR .i64 x)) (kv:=(kvS ZcR)) 102) trivial qz (qN rfl rfl qZ)) hB [4,3,2,1] [102,101,0] (fun _=>rfl) (fun _=>rfl) fun τ a w F hS=>?_
 try dsimp only [RS.sub,SF.sub,CF.sub,csub,Anc.sub,List.map,Zf,xL,xM,Nat.reduceAdd,xD,xE,xT,xU,xC,xN,zCF,rInt,rOp,rTx,Zv] at hS
 generalize τ 8=v8 at hS
 refine Za (wp_seq (wp_seq ?_))
 refine Zb hS (qg 2 101 r1 r1 (qa 101 r1 r1 (qu Tryz.underlying38 r1 (qJ qZ)))) hB [12,11,10,4,3,2,1] [102,101,0] rfl rfl fun a w F hS=>Za (wp_block ?_)
 replace hS:=hS.fresh 50 rfl
 replace hS:=hS.turn 50 rfl (Zaf (T:=128) (sz:=3) (R:=Zv))
 refine Zl (σ:=(Nat)×(List (GE Zbz Int))×(Nat)×(Value)×(List Zbz)) [1,2,4,10,11] [0,101] (fun s=>[(12,.pv (.int .i64 (s.1:Int))),(3,.pv (.is s.2.2.2.1))]) (fun s=>[(102,.ob (.val v8) (ZdC (fun n:Int=>PV.int .i64 n) (fun k=>∀ x ∈ ZcR k,inR .i64 x) (kvS ZcR) s.2.1 s.2.2.1)),(50,.ob (.val s.2.2.2.1) (Zw 128 3 Zv s.2.2.2.2))]) (fun s=>s.1≤t.ops.length∧(s.2.2.2.2=ZbO t.id (t.ops.take s.1)∧Zdi s.2.1 s.1 s.2.2.2.2)) (fun s=>t.ops.length - s.1) ((0),([]),(0),(.slice none 0 0),([])) hS ⟨rfl,rfl,rfl,rfl,rfl,rfl,rfl,trivial⟩ ⟨rfl,rfl,rfl,rfl,trivial⟩ ⟨Nat.zero_le _,⟨rfl,Zmi⟩⟩ ?_
 clear hS;intro s a w F hC hS
 obtain ⟨i,es,ck,v,out⟩:=s
 try dsimp only at hC
 obtain ⟨F,hS⟩:=hS.nm [12,11,10,4,3,2,1] [102,101,50,0] rfl rfl
 try dsimp only at hS
 obtain ⟨hi,hq⟩:=hC
 obtain ⟨hou,hvi⟩:=hq
 have hol:out.length≤i:=by rw [hou];exact ZbR _ _ _
 have hst:=fun hil:i<t.ops.length=>ZeR (id:=t.id) hil
 refine wp_seq ?_
 refine Zb hS (qL r2) hB [13,12,11,10,4,3,2,1] [102,101,50,0] rfl rfl fun a w F hS=>Za (wp_seq ?_)
 refine Zd hS rfl (fun hc0=>?_) (fun hc0=>?_)
 ·skip
  have hil:i<t.ops.length:=by simp at hc0;omega
  refine wp_skip (Za (wp_seq (wp_block (wp_seq ?_))))
  refine Zc hS (qy 4 Tryz.underlying38 r2 (qf (oR true 4 .t) r1 qz (qf (oH [.bool false,.int .i64 0,.int .i64 0,.int .i64 0] 103) trivial qz (qS 4 103 r2 r1 qZ)))) hB [12,11,10,6,4,3,2,1] [103,102,101,50,0] (fun _=>rfl) (fun _=>rfl) fun τ a w F hS=>?_
  try dsimp only [RS.sub,SF.sub,CF.sub,csub,Anc.sub,List.map,Zf,xL,xM,Nat.reduceAdd,xD,xE,xT,xU,xC,xN,zCF,ldSF,rInt,rOp,rTx,Zv] at hS
  generalize τ 6=v6 at hS
  try simp only [Int.toNat_natCast] at hS
  refine Za (wp_seq ?_)
  refine Zc hS (qe 4 103 r1 r1 (qf (oP (ZmH (Go.Gm.nth t.ops i)) Tryz.func159 (Args.one (.pagg .t))) r1 qz (qf (oH [.int .i64 0,.int .i64 0,.int .i64 0] 104) trivial qz (qf (oA 3 104 .same (.conv .t .agg)) r2 r1 qZ)))) hB [12,11,10,7,6,4,3,2,1] [104,103,102,101,50,0] (fun _=>rfl) (fun _=>rfl) fun τ a w F hS=>?_
  try dsimp only [RS.sub,SF.sub,CF.sub,csub,Anc.sub,List.map,Zf,xL,xM,Nat.reduceAdd,xD,xE,xT,xU,xC,xN,zCF,ldSF,rInt,rOp,rTx,Zv] at hS
  generalize τ 7=v7 at hS
  refine Za (wp_seq (wp_seq ?_))
  refine Zb hS (qg 0 103 r1 r1 (qa 103 r1 r1 (qf (o_not .t) r1 qz (qM rfl rfl (qv 0 104 rfl r2 r1 (qw 104 rfl r2 r1 (qk rfl (fun h=>o_eql (.w h) qi) r2 qz (qf (ZaI .t .t) r2 qz (qM rfl rfl (qv 0 104 rfl r2 r1 (qw 104 rfl r2 r1 (qv 0 101 rfl r2 r1 (qw 101 rfl r2 r1 (qk rfl (fun h=>o_eql (.w h) (.w h)) r3 qz (qf (ZaI .t .t) r2 qz qZ))))))))))))))) hB [32,12,11,10,7,4,3,2,1] [104,103,102,101,50,0] rfl rfl fun a w F hS=>Za ?_
  refine Zd hS rfl (fun hc1=>?_) (fun hc1=>?_)
  ·skip
   have hno:ZfF t.id (Go.Gm.nth t.ops i)=false:=by unfold ZfF;unfold ofO at hc1;cases hr:(Go.Gm.nth t.ops i).read <;> simp [hr] at hc1 ⊢;omega
   obtain ⟨es2,he2⟩:∃ z,z=es:=⟨_,rfl⟩
   obtain ⟨ck2,hc2⟩:∃ z,z=ck:=⟨_,rfl⟩
   obtain ⟨out2,ho2⟩:∃ z,z=out:=⟨_,rfl⟩
   have hR2:out2=ZbO t.id (t.ops.take (i+1))∧Zdi es2 (i+1) out2:=⟨by rw [ho2,hou,hst hil];unfold ZaA;rw [if_neg (by rw [hno];simp)],by rw [he2,ho2];exact Zmb hvi⟩
   rw [← he2,← hc2,← ho2] at hS
   refine wp_exit (Zk (Zq (Za ?_)))
   refine Zb hS (qp r1 (qM rfl rfl qZ)) hB [12,11,10,4,3,2,1] [103,102,101,50,0] rfl rfl fun a w F hS=>Za ?_
   replace hS:=hS.ent (i:=12) (s':=.pv (.int .i64 ((i+1:Nat):Int))) rfl (.int (Ze (by omega)))
   obtain ⟨F,hS⟩:=hS.nm [11,10,4,2,1,3,12] [101,0,50,102] rfl rfl
   exact ⟨((i+1),(es2),(ck2),_,(out2)),F,⟨by omega,hR2⟩,hS,by omega⟩
  have hyes:ZfF t.id (Go.Gm.nth t.ops i)=true:=by unfold ZfF;unfold ofO at hc1;cases hr:(Go.Gm.nth t.ops i).read <;> simp [hr] at hc1 ⊢;exact hc1
  have hvr:=hvi (ofO (Go.Gm.nth t.ops i))
  have hw1:IntKind.wrap .i64 (((gGet (ofO (Go.Gm.nth t.ops i)) es).getD 0)+1)=((gGet (ofO (Go.Gm.nth t.ops i)) es).getD 0)+1:=ZP (by have:=Sat.lenSl hS (i:=10) rfl;omega)
  refine wp_skip (Za (wp_seq ?_))
  replace hS:=hS.turnZ 102 (0) (ofO (Go.Gm.nth t.ops i)) rfl
  refine ZeU 102 6 (m1:=1) (m2:=2) (by kernel_rfl) hS (by kernel_rfl) (qM rfl rfl (qe 3 104 r1 r1 (qf (ZhE (ek:=(fun n:Int=>PV.int .i64 n)) (z0:=(0)) 102 Tryz.underlying185 Zlk (by kernel_rfl) (fun _ _=>⟨rfl,ZhT⟩) .is (Z7.agg (enc:=ZcR) (k:=(ofO (Go.Gm.nth t.ops i))) (.pagg .t) rfl)) r2 r1 (qp r1 (qf (Zfh (ek:=(fun n:Int=>PV.int .i64 n)) (z0:=(0)) 102 Tryz.underlying185 Zlk (by kernel_rfl) (fun _ _=>⟨rfl,ZhT⟩) .is (Z7.agg (enc:=ZcR) (k:=(ofO (Go.Gm.nth t.ops i))) (.pagg .t) rfl) (by intros;first | rfl | simp [Anc.v,upd])) r2 r1 (qf (o_extract .t rfl) r1 qz (qf (Zde 102 (Zfq _ _ _) .is .t .t) r3 r1 qZ))))))) (by kernel_rfl) (by kernel_rfl) (by kernel_rfl) rfl rfl rfl (fun _ _ _ _ h=>.inr h) (by rw [hB];kernel_rfl) fun a w F hS=>?_
  obtain ⟨F,hS⟩:=hS.nm [12,11,10,7,4,3,2,1] [104,103,102,101,50,0] rfl rfl
  try dsimp only [List.map,xD,xE,xT,xU,ldSF,rInt,rOp,rTx,Zv] at hS
  obtain ⟨es2,he2⟩:∃ z,z=gSet (ofO (Go.Gm.nth t.ops i)) (IntKind.wrap .i64 (((gGet (ofO (Go.Gm.nth t.ops i)) es).getD 0)+1)) (gEns 0 (ofO (Go.Gm.nth t.ops i)) (es,ck)).1:=⟨_,rfl⟩
  obtain ⟨ck2,hc2⟩:∃ z,z=(gEns 0 (ofO (Go.Gm.nth t.ops i)) (es,ck)).2:=⟨_,rfl⟩
  rw [← he2,← hc2] at hS
  have hvv:∀ u,(gGet u es2).getD 0=if u=(ofO (Go.Gm.nth t.ops i)) then ((gGet (ofO (Go.Gm.nth t.ops i)) es).getD 0)+1 else (gGet u es).getD 0:=fun u=>by rw [he2,Zf7,hw1]
  have hmv:(gGet (ofO (Go.Gm.nth t.ops i)) es2).getD 0=((gGet (ofO (Go.Gm.nth t.ops i)) es).getD 0)+1:=by rw [hvv,if_pos rfl]
  have hvs:=ZmF hvi hvv
  refine Za (wp_seq ?_)
  refine Zb hS (qM rfl rfl (qe 3 104 r1 r1 (qf (Zbn (ek:=(fun n:Int=>PV.int .i64 n)) (z0:=(0)) 102 Tryz.underlying185 Zlk (by kernel_rfl) (fun _ _=>⟨rfl,ZhT⟩) .is (Z7.agg (enc:=ZcR) (k:=(ofO (Go.Gm.nth t.ops i))) (.pagg .t) rfl)) r2 r1 (qf (o_eql .t qi) r1 qz qZ)))) hB [42,12,11,10,7,4,3,2,1] [104,103,102,101,50,0] rfl rfl fun a w F hS=>Za ?_
  refine Zd hS rfl (fun hc2=>?_) (fun hc2=>?_)
  ·skip
   have hnm:(ofO (Go.Gm.nth t.ops i)) ∉ out:=by rw [← hvr.2.2];rw [hmv] at hc2;simp at hc2;omega
   obtain ⟨out2,ho2⟩:∃ z,z=out ++ [(ofO (Go.Gm.nth t.ops i))]:=⟨_,rfl⟩
   have hR2:out2=ZbO t.id (t.ops.take (i+1))∧Zdi es2 (i+1) out2:=⟨by rw [ho2,hst hil];unfold ZaA;rw [if_pos ⟨hyes,by rw [← hou];exact hnm⟩,← hou],by have:=hvs;rw [if_neg hnm] at this;rw [ho2];exact this⟩
   refine Zc hS (qM rfl rfl (qe 3 104 r1 r1 (qf (Zh (sz:=3) (zs:=[.int .i64 0,.int .i64 0,.int .i64 0]) (r:=[(0,.tmp 44)]) (l:=[_,_,_]) Tryz.underlying126 (by kernel_rfl) (by kernel_rfl) (by kernel_rfl) (by kernel_rfl) rfl rfl (.agg rfl .t (by kernel_rfl) (by kernel_rfl) .nil) rfl) r1 qz (qf (o_append (sz:=3) (bs:=24) 50 (.mk' Tryz.underlying126 (by kernel_rfl) (by kernel_rfl)) (by intro x;rfl) .is (.arr (l':=[_]) .t) (by simp only [List.length_append,List.length_cons,List.length_nil,List.length_take,List.length_drop];omega) (by decide)) ⟨rfl,rfl,trivial⟩ ⟨rfl,trivial⟩ (qN rfl rfl qZ))))) hB [12,11,10,4,3,2,1] [103,102,101,50,0] (fun _=>rfl) (fun _=>rfl) fun τ a w F hS=>?_
   try dsimp only [RS.sub,SF.sub,CF.sub,csub,Anc.sub,List.map,Zf,xL,xM,Nat.reduceAdd,xD,xE,xT,xU,xC,xN,zCF,ldSF,rInt,rOp,rTx,Zv] at hS
   generalize τ 46=v46 at hS
   rw [← ho2] at hS
   refine Zi (Za ?_)
   refine Zb hS (qp r1 (qM rfl rfl qZ)) hB [12,11,10,4,3,2,1] [103,102,101,50,0] rfl rfl fun a w F hS=>Za ?_
   replace hS:=hS.ent (i:=12) (s':=.pv (.int .i64 ((i+1:Nat):Int))) rfl (.int (Ze (by omega)))
   obtain ⟨F,hS⟩:=hS.nm [11,10,4,2,1,3,12] [101,0,50,102] rfl rfl
   exact ⟨((i+1),(es2),(ck2),_,(out2)),F,⟨by omega,hR2⟩,hS,by omega⟩
  have hnm:(ofO (Go.Gm.nth t.ops i)) ∈ out:=by rw [← hvr.2.2];rw [hmv] at hc2;simp at hc2;omega
  obtain ⟨out2,ho2⟩:∃ z,z=out:=⟨_,rfl⟩
  have hR2:out2=ZbO t.id (t.ops.take (i+1))∧Zdi es2 (i+1) out2:=⟨by rw [ho2,hst hil];unfold ZaA;rw [if_neg (by rw [← hou];simp [hnm])];exact hou,by have:=hvs;rw [if_pos hnm] at this;rw [ho2];exact this⟩
  rw [← ho2] at hS
  refine wp_skip (Zi (Za ?_))
  refine Zb hS (qp r1 (qM rfl rfl qZ)) hB [12,11,10,4,3,2,1] [103,102,101,50,0] rfl rfl fun a w F hS=>Za ?_
  replace hS:=hS.ent (i:=12) (s':=.pv (.int .i64 ((i+1:Nat):Int))) rfl (.int (Ze (by omega)))
  obtain ⟨F,hS⟩:=hS.nm [11,10,4,2,1,3,12] [101,0,50,102] rfl rfl
  exact ⟨((i+1),(es2),(ck2),_,(out2)),F,⟨by omega,hR2⟩,hS,by omega⟩
 have hil:i=t.ops.length:=by simp at hc0;omega
 refine wp_exit (Zk (Zk (Zq (Za (wp_seq ?_)))))
 refine Zb hS (qM rfl rfl (qN rfl rfl qZ)) hB [2] [102,101,50,0] rfl rfl fun a w F hS=>Za (wp_ret ?_)
 obtain ⟨F,hS⟩:=hS.give 50 2 rfl rfl
 refine Zr hfr hS rfl rfl rfl (.sl (by rw [hou,hil,List.take_length];rfl))
theorem ZfI (t:TxD) (hl:t.ops.length≤1000000):FnP Tryz.prog 149 [.agg (rTx t)] (.sl Zv (ZV t)):=by
 refine FnP.mk Tryz.func149 rfl Tryz.ntmps149 rfl ?_
 intro B a w F hB hfr hS
 refine wp_seq ?_
 refine Zc hS (qx 101 r1 (qC qZ)) hB [2,1] [101,0] (fun _=>rfl) (fun _=>rfl) fun τ a w F hS=>?_
 try dsimp only [RS.sub,SF.sub,CF.sub,csub,Anc.sub,List.map,zCF,rInt,rOp,rTx,Zv] at hS
 generalize τ 1=v1 at hS
 refine Za (wp_seq ?_)
 refine Zb hS (qC qZ) hB [3,2,1] [101,0] rfl rfl fun a w F hS=>Za (wp_seq (wp_seq ?_))
 refine Zb hS (qg 2 101 r1 r1 (qa 101 r1 r1 (qu Tryz.underlying38 r1 (qJ qZ)))) hB [10,9,8,3,2,1] [101,0] rfl rfl fun a w F hS=>Za (wp_block ?_)
 replace hS:=hS.fresh 50 rfl
 replace hS:=hS.turn 50 rfl (Zaf (T:=128) (sz:=3) (R:=Zv))
 refine Zl (σ:=(Nat)×(Value)×(List Zbz)) [1,2,8,9] [0,101] (fun s=>[(10,.pv (.int .i64 (s.1:Int))),(3,.pv (.is s.2.1))]) (fun s=>[(50,.ob (.val s.2.1) (Zw 128 3 Zv s.2.2))]) (fun s=>s.1≤t.ops.length∧(s.2.2=ZbO t.id (t.ops.take s.1))) (fun s=>t.ops.length - s.1) ((0),(.slice none 0 0),([])) hS ⟨rfl,rfl,rfl,rfl,rfl,rfl,trivial⟩ ⟨rfl,rfl,rfl,trivial⟩ ⟨Nat.zero_le _,rfl⟩ ?_
 clear hS;intro s a w F hC hS
 obtain ⟨i,v,out⟩:=s
 try dsimp only at hC
 obtain ⟨F,hS⟩:=hS.nm [10,9,8,3,2,1] [101,50,0] rfl rfl
 try dsimp only at hS
 obtain ⟨hi,hq⟩:=hC
 have hol:out.length≤i:=by rw [hq];exact ZbR _ _ _
 have hst:=fun hil:i<t.ops.length=>ZeR (id:=t.id) hil
 refine wp_seq ?_
 refine Zb hS (qL r2) hB [11,10,9,8,3,2,1] [101,50,0] rfl rfl fun a w F hS=>Za (wp_seq ?_)
 refine Zd hS rfl (fun hc0=>?_) (fun hc0=>?_)
 ·skip
  have hil:i<t.ops.length:=by simp at hc0;omega
  refine wp_skip (Za (wp_seq (wp_block (wp_seq ?_))))
  refine Zc hS (qy 4 Tryz.underlying38 r2 (qf (oR true 4 .t) r1 qz (qf (oH [.bool false,.int .i64 0,.int .i64 0,.int .i64 0] 102) trivial qz (qS 4 102 r2 r1 qZ)))) hB [10,9,8,5,3,2,1] [102,101,50,0] (fun _=>rfl) (fun _=>rfl) fun τ a w F hS=>?_
  try dsimp only [RS.sub,SF.sub,CF.sub,csub,Anc.sub,List.map,Zf,xL,xM,Nat.reduceAdd,xD,xE,xT,xU,xC,xN,zCF,ldSF,rInt,rOp,rTx,Zv] at hS
  generalize τ 5=v5 at hS
  try simp only [Int.toNat_natCast] at hS
  refine Za (wp_seq ?_)
  refine Zc hS (qe 4 102 r1 r1 (qf (oP (Zli (Go.Gm.nth t.ops i)) Tryz.func190 (Args.one (.pagg .t))) r1 qz (qf (oH [.int .i64 0,.int .i64 0,.int .i64 0] 103) trivial qz (qf (oA 3 103 .same (.conv .t .agg)) r2 r1 qZ)))) hB [10,9,8,6,5,3,2,1] [103,102,101,50,0] (fun _=>rfl) (fun _=>rfl) fun τ a w F hS=>?_
  try dsimp only [RS.sub,SF.sub,CF.sub,csub,Anc.sub,List.map,Zf,xL,xM,Nat.reduceAdd,xD,xE,xT,xU,xC,xN,zCF,ldSF,rInt,rOp,rTx,Zv] at hS
  generalize τ 6=v6 at hS
  refine Za (wp_seq ?_)
  refine Zb hS (qg 0 102 r1 r1 (qa 102 r1 r1 (qM rfl rfl (qv 2 102 rfl r2 r1 (qw 102 rfl r2 r1 (qk rfl (fun h=>o_neq (.w h) qi) r2 qz (qf (Zy .t .t) r2 qz (qM rfl rfl (qv 2 102 rfl r2 r1 (qw 102 rfl r2 r1 (qv 0 101 rfl r2 r1 (qw 101 rfl r2 r1 (qk rfl (fun h=>o_neq (.w h) (.w h)) r3 qz (qf (Zy .t .t) r2 qz (qM rfl rfl (qm rfl rfl rfl rfl (qk rfl (fun h=>oL true 3 103 .is) r2 r1 (qk rfl (fun h=>OpC.lendRow 50 [31] (oP (Zmh out (ofO (Go.Gm.nth t.ops i))) Tryz.func191 (Args.two (.w h) (.pagg (.w h)))) ⟨rfl,trivial,trivial⟩ (.pv (fun _ _ _ _ h=>h)) trivial (by rfl)) r3 r1 (qk rfl (fun h=>o_not (.w h)) r2 qz (qf (Zy .t .t) r2 qz qZ)))))))))))))))))))) hB [35,10,9,8,6,3,2,1] [103,102,101,50,0] rfl rfl fun a w F hS=>Za ?_
  refine Zd hS rfl (fun hc1=>?_) (fun hc1=>?_)
  ·skip
   have hBq:(ZfF t.id (Go.Gm.nth t.ops i)=true∧(ofO (Go.Gm.nth t.ops i)) ∉ ZbO t.id (t.ops.take i)):=by rw [← hq];unfold ZfF;simpa [and_assoc] using hc1
   refine Zc hS (qM rfl rfl (qe 3 103 r1 r1 (qf (Zh (sz:=3) (zs:=[.int .i64 0,.int .i64 0,.int .i64 0]) (r:=[(0,.tmp 37)]) (l:=[_,_,_]) Tryz.underlying126 (by kernel_rfl) (by kernel_rfl) (by kernel_rfl) (by kernel_rfl) rfl rfl (.agg rfl .t (by kernel_rfl) (by kernel_rfl) .nil) rfl) r1 qz (qf (o_append (sz:=3) (bs:=24) 50 (.mk' Tryz.underlying126 (by kernel_rfl) (by kernel_rfl)) (by intro x;rfl) .is (.arr (l':=[_]) .t) (by simp only [List.length_append,List.length_cons,List.length_nil,List.length_take,List.length_drop];omega) (by decide)) ⟨rfl,rfl,trivial⟩ ⟨rfl,trivial⟩ (qN rfl rfl qZ))))) hB [10,9,8,3,2,1] [103,102,101,50,0] (fun _=>rfl) (fun _=>rfl) fun τ a w F hS=>?_
   try dsimp only [RS.sub,SF.sub,CF.sub,csub,Anc.sub,List.map,Zf,xL,xM,Nat.reduceAdd,xD,xE,xT,xU,xC,xN,zCF,ldSF,rInt,rOp,rTx,Zv] at hS
   generalize τ 39=v39 at hS
   refine Zi (Za ?_)
   refine Zb hS (qp r1 (qM rfl rfl qZ)) hB [10,9,8,3,2,1] [103,102,101,50,0] rfl rfl fun a w F hS=>Za ?_
   replace hS:=hS.ent (i:=10) (s':=.pv (.int .i64 ((i+1:Nat):Int))) rfl (.int (Ze (by omega)))
   obtain ⟨F,hS⟩:=hS.nm [9,8,2,1,3,10] [101,0,50] rfl rfl
   exact ⟨((i+1),_,_),F,⟨by omega,(by rw [hst hil];unfold ZaA;first | (rw [if_pos hBq,← hq];done) | (rw [if_neg hBq,← hq]))⟩,hS,by omega⟩
  have hBq:¬ (ZfF t.id (Go.Gm.nth t.ops i)=true∧(ofO (Go.Gm.nth t.ops i)) ∉ ZbO t.id (t.ops.take i)):=by rw [← hq];unfold ZfF;intro h9;have h8:=hc1;simp at h8 h9;simp [h9] at h8
  refine wp_skip (Zi (Za ?_))
  refine Zb hS (qp r1 (qM rfl rfl qZ)) hB [10,9,8,3,2,1] [103,102,101,50,0] rfl rfl fun a w F hS=>Za ?_
  replace hS:=hS.ent (i:=10) (s':=.pv (.int .i64 ((i+1:Nat):Int))) rfl (.int (Ze (by omega)))
  obtain ⟨F,hS⟩:=hS.nm [9,8,2,1,3,10] [101,0,50] rfl rfl
  exact ⟨((i+1),_,_),F,⟨by omega,(by rw [hst hil];unfold ZaA;first | (rw [if_pos hBq,← hq];done) | (rw [if_neg hBq,← hq]))⟩,hS,by omega⟩
 have hil:i=t.ops.length:=by simp at hc0;omega
 refine wp_exit (Zk (Zk (Zq (Za (wp_seq ?_)))))
 refine Zb hS (qM rfl rfl (qN rfl rfl qZ)) hB [2] [101,50,0] rfl rfl fun a w F hS=>Za (wp_ret ?_)
 obtain ⟨F,hS⟩:=hS.give 50 2 rfl rfl
 refine Zr hfr hS rfl rfl rfl (.sl (by rw [hq,hil,List.take_length];rfl))
theorem Zk5 (l:List Int) (v:Int):FnP Tryz.prog 145 [.sl rInt l,.int .i64 v] (.int .i64 (ZaT v l)):=by
 refine FnP.mk Tryz.func145 rfl Tryz.ntmps145 rfl ?_
 intro B a w F hB hfr hS
 have hll:=Sat.lenSl hS (i:=0) rfl
 refine wp_seq ?_
 refine Zb hS (qI qZ) hB [4,1,0] [0] rfl rfl fun a w F hS=>Za (wp_seq (wp_seq ?_))
 refine Zb hS (qM rfl rfl (qu Tryz.underlying41 r1 (qJ qZ))) hB [8,7,4,1,0] [0] rfl rfl fun a w F hS=>Za (wp_block ?_)
 refine Zl (σ:=(Nat)) [0,1,4,7] [0] (fun s=>[(8,.pv (.int .i64 (s:Int)))]) (fun s=>[]) (fun s=>s≤l.length∧(∀ k,k<s→Go.Gm.nth l k≠v)) (fun s=>l.length - s) (0) hS ⟨rfl,rfl,rfl,rfl,rfl,trivial⟩ ⟨rfl,trivial⟩ ⟨Nat.zero_le _,fun k hk=>absurd hk (Nat.not_lt_zero k)⟩ ?_
 clear hS;intro i a w F hC hS
 try dsimp only at hC
 obtain ⟨F,hS⟩:=hS.nm [8,7,4,1,0] [0] rfl rfl
 try dsimp only at hS
 obtain ⟨hi,hq⟩:=hC
 refine wp_seq ?_
 refine Zb hS (qL r2) hB [9,8,7,4,1,0] [0] rfl rfl fun a w F hS=>Za (wp_seq ?_)
 refine Zd hS rfl (fun hc0=>?_) (fun hc0=>?_)
 ·skip
  have hil:i<l.length:=by simp at hc0;omega
  refine wp_skip (Za (wp_seq (wp_block (wp_seq ?_))))
  refine Zb hS (qM rfl rfl (qN rfl rfl qZ)) hB [8,7,5,4,1,0] [0] rfl rfl fun a w F hS=>Za (wp_seq ?_)
  refine Zb hS (qM rfl rfl (qM rfl rfl (qM rfl rfl (qy 1 Tryz.underlying41 r2 (qf (oR false 1 .t) r1 qz (qf (o_eql .t .t) r2 qz qZ)))))) hB [16,8,7,5,4,1,0] [0] rfl rfl fun a w F hS=>?_
  try simp only [Int.toNat_natCast] at hS
  refine Za ?_
  refine Zd hS rfl (fun hc1=>?_) (fun hc1=>?_)
  ·skip
   have hg:(i:Int)=ZaT v l:=(Zif hil (by simp at hc1;omega) hq).symm
   refine wp_seq ?_
   refine Zb hS (qM rfl rfl (qN rfl rfl qZ)) hB [8,7,4,1,0] [0] rfl rfl fun a w F hS=>Za (wp_ret (Zm (Zg (Zg (Zm (Zg ?_))))))
   refine Zr hfr hS rfl rfl rfl (.int hg)
  have hne:Go.Gm.nth l i≠v:=by simp at hc1;omega
  refine wp_skip (Zi (Za ?_))
  refine Zb hS (qp r1 (qM rfl rfl qZ)) hB [8,7,4,1,0] [0] rfl rfl fun a w F hS=>Za ?_
  replace hS:=hS.ent (i:=8) (s':=.pv (.int .i64 ((i+1:Nat):Int))) rfl (.int (Ze (by omega)))
  obtain ⟨F,hS⟩:=hS.nm [7,4,1,0,8] [0] rfl rfl
  exact ⟨(i+1),F,⟨by omega,(fun k hk=>by rcases Nat.lt_or_eq_of_le (Nat.le_of_lt_succ hk) with h | h;exact hq k h;rw [h];exact hne)⟩,hS,by omega⟩
 have hil:i=l.length:=by simp at hc0;omega
 have hg : -1=ZaT v l:=(ZdI fun k hk=>hq k (by simp at hc0;omega)).symm
 refine wp_exit (Zk (Zk (Zq (Za (wp_seq ?_)))))
 refine Zb hS (qI qZ) hB [4] [0] rfl rfl fun a w F hS=>Za (wp_ret ?_)
 refine Zr hfr hS rfl rfl rfl (.int hg)
theorem ZlH (l:List Int) (v:Int):FnP Tryz.prog 154 [.sl rInt l,.int .i64 v] (.int .i64 (ZaT v l)):=by
 refine FnP.mk Tryz.func154 rfl Tryz.ntmps154 rfl ?_
 intro B a w F hB hfr hS
 have hll:=Sat.lenSl hS (i:=0) rfl
 refine wp_seq ?_
 refine Zb hS (qI qZ) hB [4,1,0] [0] rfl rfl fun a w F hS=>Za (wp_seq (wp_seq ?_))
 refine Zb hS (qM rfl rfl (qu Tryz.underlying41 r1 (qJ qZ))) hB [9,8,7,4,1] [0] rfl rfl fun a w F hS=>Za (wp_block ?_)
 refine Zl (σ:=(Nat)) [1,4,7,8] [0] (fun s=>[(9,.pv (.int .i64 (s:Int)))]) (fun s=>[]) (fun s=>s≤l.length∧(∀ k,k<s→Go.Gm.nth l k≠v)) (fun s=>l.length - s) (0) hS ⟨rfl,rfl,rfl,rfl,rfl,trivial⟩ ⟨rfl,trivial⟩ ⟨Nat.zero_le _,fun k hk=>absurd hk (Nat.not_lt_zero k)⟩ ?_
 clear hS;intro i a w F hC hS
 try dsimp only at hC
 obtain ⟨F,hS⟩:=hS.nm [9,8,7,4,1] [0] rfl rfl
 try dsimp only at hS
 obtain ⟨hi,hq⟩:=hC
 refine wp_seq ?_
 refine Zb hS (qL r2) hB [10,9,8,7,4,1] [0] rfl rfl fun a w F hS=>Za (wp_seq ?_)
 refine Zd hS rfl (fun hc0=>?_) (fun hc0=>?_)
 ·skip
  have hil:i<l.length:=by simp at hc0;omega
  refine wp_skip (Za (wp_seq (wp_block (wp_seq ?_))))
  refine Zb hS (qM rfl rfl (qy 1 Tryz.underlying41 r2 (qf (oR false 1 .t) r1 qz (qN rfl rfl (qN rfl rfl qZ))))) hB [9,8,7,6,5,4,1] [0] rfl rfl fun a w F hS=>?_
  try simp only [Int.toNat_natCast] at hS
  refine Za (wp_seq ?_)
  refine Zb hS (qM rfl rfl (qM rfl rfl (qf (o_eql .t .t) r2 qz qZ))) hB [16,9,8,7,5,4,1] [0] rfl rfl fun a w F hS=>Za ?_
  refine Zd hS rfl (fun hc1=>?_) (fun hc1=>?_)
  ·skip
   have hg:(i:Int)=ZaT v l:=(Zif hil (by simp at hc1;omega) hq).symm
   refine wp_seq ?_
   refine Zb hS (qM rfl rfl (qN rfl rfl qZ)) hB [9,8,7,4,1] [0] rfl rfl fun a w F hS=>Za (wp_ret (Zm (Zg (Zg (Zm (Zg ?_))))))
   refine Zr hfr hS rfl rfl rfl (.int hg)
  have hne:Go.Gm.nth l i≠v:=by simp at hc1;omega
  refine wp_skip (Zi (Za ?_))
  refine Zb hS (qp r1 (qM rfl rfl qZ)) hB [9,8,7,4,1] [0] rfl rfl fun a w F hS=>Za ?_
  replace hS:=hS.ent (i:=9) (s':=.pv (.int .i64 ((i+1:Nat):Int))) rfl (.int (Ze (by omega)))
  obtain ⟨F,hS⟩:=hS.nm [8,7,4,1,9] [0] rfl rfl
  exact ⟨(i+1),F,⟨by omega,(fun k hk=>by rcases Nat.lt_or_eq_of_le (Nat.le_of_lt_succ hk) with h | h;exact hq k h;rw [h];exact hne)⟩,hS,by omega⟩
 have hil:i=l.length:=by simp at hc0;omega
 have hg : -1=ZaT v l:=(ZdI fun k hk=>hq k (by simp at hc0;omega)).symm
 refine wp_exit (Zk (Zk (Zq (Za (wp_seq ?_)))))
 refine Zb hS (qI qZ) hB [4] [0] rfl rfl fun a w F hS=>Za (wp_ret ?_)
 refine Zr hfr hS rfl rfl rfl (.int hg)
theorem ZjS (l:List Int) (v:Int):FnP Tryz.prog 209 [.sl rInt l,.int .i64 v] (.bool (decide (v ∈ l))):=by
 refine FnP.mk Tryz.func209 rfl Tryz.ntmps209 rfl ?_
 intro B a w F hB hfr hS
 refine wp_seq ?_
 refine Zb hS qB hB [4,1,0] [0] rfl rfl fun a w F hS=>Za (wp_seq ?_)
 refine Zb hS (qM rfl rfl (qM rfl rfl (qf (oP (Zk5 l v) Tryz.func145 (Args.two .t .t)) r2 qz (qf (ZbF .t qi) r1 qz (qN rfl rfl qZ))))) hB [4] [0] rfl rfl fun a w F hS=>Za (wp_ret ?_)
 refine Zr hfr hS rfl rfl rfl (.bool (by rw [decide_eq_decide];exact Zi5))
theorem Znh (x y:List Int):FnP Tryz.prog 104 [.sl rInt x,.sl rInt y] (.bool (decide (x=y))):=by
 refine FnP.mk Tryz.func104 rfl Tryz.ntmps104 rfl ?_
 intro B a w F hB hfr hS
 have hxl:=Sat.lenSl hS (i:=0) rfl
 refine wp_seq ?_
 refine Zb hS qB hB [4,1,0] [0] rfl rfl fun a w F hS=>Za (wp_seq (wp_seq ?_))
 refine Zb hS (qM rfl rfl (qu Tryz.underlying41 r1 (qM rfl rfl (qu Tryz.underlying41 r1 (qf (o_neq .t .t) r2 qz qZ))))) hB [10,4,1,0] [0] rfl rfl fun a w F hS=>Za ?_
 refine Zd hS rfl (fun hc0=>?_) (fun hc0=>?_)
 ·skip
  have hg:false=decide (x=y):=by
    rw [eq_comm,decide_eq_false_iff_not]
    intro h
    subst h
    simp at hc0
  refine wp_seq ?_
  refine Zb hS qB hB [4,1,0] [0] rfl rfl fun a w F hS=>Za (wp_ret (Zg ?_))
  refine Zr hfr hS rfl rfl rfl (.bool hg)
 have hl:x.length=y.length:=by simp at hc0;omega
 refine wp_skip (Za (wp_seq (wp_seq ?_)))
 refine Zb hS (qM rfl rfl (qu Tryz.underlying41 r1 (qJ qZ))) hB [13,12,4,1,0] [0] rfl rfl fun a w F hS=>Za (wp_block ?_)
 obtain ⟨F,hS⟩:=hS.nm [13,12,1,0] [0] rfl rfl
 refine Zbe (σ:=Nat) (fun s=>(⟨[(0,.pv (.sl rInt x)),(1,.pv (.sl rInt y)),(12,.pv (.int .i64 x.length)),(13,.pv (.int .i64 s))],[(0,frame B)]⟩:En)) (fun s=>s≤x.length ∧ ∀ j,j<s→Go.Gm.nth x j=Go.Gm.nth y j) (fun s=>x.length - s) 0 hS ⟨Nat.zero_le _,fun j hj=>absurd hj (Nat.not_lt_zero j)⟩ ?_
 clear hS;intro i a w F hC hS
 try dsimp only at hC
 try dsimp only at hS
 obtain ⟨hi,hq⟩:=hC
 refine wp_seq ?_
 refine Zb hS (qL r2) hB [14,13,12,1,0] [0] rfl rfl fun a w F hS=>Za (wp_seq ?_)
 refine Zd hS rfl (fun hc1=>?_) (fun hc1=>?_)
 ·skip
  have hil:i<x.length:=by simp at hc1;omega
  refine wp_skip (Za (wp_seq (wp_block (wp_seq ?_))))
  refine Zb hS (qM rfl rfl (qN rfl rfl qZ)) hB [13,12,5,1,0] [0] rfl rfl fun a w F hS=>Za (wp_seq ?_)
  refine ZE hS (qM rfl rfl (qM rfl rfl (qy 1 Tryz.underlying41 r2 (qf (oR false 1 .t) r1 qz (qM rfl rfl (qM rfl rfl (qy 1 Tryz.underlying41 r2 (qf (oR false 1 .t) r1 qz (qf (o_neq .t .t) r2 qz qZ))))))))) hB [24,13,12,1,0] [0] rfl rfl fun a w F hS=>?_
  try dsimp only [List.map,xD,xE,xT,xU,ldSF] at hS
  refine Za ?_
  refine Zd hS rfl (fun hc2=>?_) (fun hc2=>?_)
  ·skip
   have hg:false=decide (x=y):=by
     rw [eq_comm,decide_eq_false_iff_not]
     intro h
     subst h
     simp at hc2
   refine wp_seq ?_
   refine Zb hS qB hB [13,12,4,1,0] [0] rfl rfl fun a w F hS=>Za (wp_ret (Zm (Zg (Zg (Zm (Zg ?_))))))
   refine Zr hfr hS rfl rfl rfl (.bool hg)
  rw [Int.toNat_natCast] at hc2
  have hqi:Go.Gm.nth x i=Go.Gm.nth y i:=by simpa using hc2
  refine wp_skip (Zi (Za ?_))
  refine Zb hS (qp r1 (qM rfl rfl qZ)) hB [13,12,1,0] [0] rfl rfl fun a w F hS=>Za ?_
  replace hS:=hS.ent (i:=13) (s':=.pv (.int .i64 ((i+1:Nat):Int))) rfl (.int (Ze (by omega)))
  obtain ⟨F,hS⟩:=hS.nm [13,12,1,0] [0] rfl rfl
  exact ⟨i+1,F,⟨by omega,fun j hj=>by rcases Nat.lt_or_eq_of_le (Nat.le_of_lt_succ hj) with h | h;exact hq j h;rw [h];exact hqi⟩,hS,by omega⟩
 have hg:true=decide (x=y):=by
   rw [eq_comm,decide_eq_true_eq]
   exact Zbm hl fun j hj=>hq j (by simp at hc1;omega)
 refine wp_exit (Zk (Zk (Zq (Za (wp_seq ?_)))))
 refine Zb hS qB hB [4] [0] rfl rfl fun a w F hS=>Za (wp_ret ?_)
 refine Zr hfr hS rfl rfl rfl (.bool hg)
theorem Zkz (x y:List Int) (hx:x.length≤1000000) (hy:y.length≤1000000):FnP Tryz.prog 46 [.sl rInt x,.sl rInt y] (.bool (decide (x.Perm y))):=by
 refine FnP.mk Tryz.func46 rfl Tryz.ntmps46 rfl ?_
 intro B a w F hB hfr hS
 refine wp_seq ?_
 refine Zb hS qB hB [4,1,0] [0] rfl rfl fun a w F hS=>Za (wp_seq ?_)
 replace hS:=hS.fresh 101 rfl
 replace hS:=hS.fresh 102 rfl
 refine Zc hS (qM rfl rfl (qf (ZaM 101 (ZcC x hx) Tryz.func82 rfl (by kernel_rfl) (Args.one .t) ZaF) r1 r1 (qM rfl rfl (qf (ZaM 102 (ZcC y hy) Tryz.func82 rfl (by kernel_rfl) (Args.one .t) ZaF) r1 r1 (qN rfl rfl (qN rfl rfl qZ)))))) hB [6,5,4] [102,101,0] (fun _=>rfl) (fun _=>rfl) fun τ a w F hS=>?_
 try dsimp only [RS.sub,SF.sub,CF.sub,csub,Anc.sub,List.map,rInt] at hS
 generalize τ 8=v8 at hS
 generalize τ 10=v10 at hS
 refine Za (wp_seq ?_)
 refine Zb hS (qM rfl rfl (qf (Zcc 101 (Zk8 _ x hx) Tryz.func103 rfl (by kernel_rfl) (Args.one .t)) r1 r1 qZ)) hB [6,5,4] [102,101,0] rfl rfl fun a w F hS=>Za (wp_seq ?_)
 refine Zb hS (qM rfl rfl (qf (Zcc 102 (Zk8 _ y hy) Tryz.func103 rfl (by kernel_rfl) (Args.one .t)) r1 r1 qZ)) hB [6,5,4] [102,101,0] rfl rfl fun a w F hS=>Za (wp_seq ?_)
 refine Zb hS (qM rfl rfl (qM rfl rfl (qf (OpC.lendRow 102 [16] (OpC.lendRow 101 [15] (oP (Znh _ _) Tryz.func104 (Args.two .t .t)) ⟨rfl,trivial,trivial⟩ (.pv (fun _ _ _ _ h=>h)) trivial (by rfl)) ⟨trivial,rfl,trivial⟩ (.pv (fun _ _ _ _ h=>h)) trivial (by rfl)) r2 r2 (qN rfl rfl qZ)))) hB [4] [102,101,0] rfl rfl fun a w F hS=>Za (wp_ret ?_)
 refine Zr hfr hS rfl rfl rfl (.bool (by rw [decide_eq_decide];exact ZlA))
theorem Znx (x y:List OpD):FnP Tryz.prog 188 [.sl rOp x,.sl rOp y] (.bool (decide (x=y))):=by
 refine FnP.mk Tryz.func188 rfl Tryz.ntmps188 rfl ?_
 intro B a w F hB hfr hS
 have hxl:=Sat.lenSl hS (i:=0) rfl
 refine wp_seq ?_
 refine Zb hS qB hB [4,1,0] [0] rfl rfl fun a w F hS=>Za (wp_seq (wp_seq ?_))
 refine Zb hS (qM rfl rfl (qu Tryz.underlying38 r1 (qM rfl rfl (qu Tryz.underlying38 r1 (qf (o_neq .t .t) r2 qz qZ))))) hB [10,4,1,0] [0] rfl rfl fun a w F hS=>Za ?_
 refine Zd hS rfl (fun hc0=>?_) (fun hc0=>?_)
 ·skip
  have hg:false=decide (x=y):=by
    rw [eq_comm,decide_eq_false_iff_not]
    intro h
    subst h
    simp at hc0
  refine wp_seq ?_
  refine Zb hS qB hB [4,1,0] [0] rfl rfl fun a w F hS=>Za (wp_ret (Zg ?_))
  refine Zr hfr hS rfl rfl rfl (.bool hg)
 have hl:x.length=y.length:=by simp at hc0;omega
 refine wp_skip (Za (wp_seq (wp_seq ?_)))
 refine Zb hS (qM rfl rfl (qu Tryz.underlying38 r1 (qJ qZ))) hB [13,12,4,1,0] [0] rfl rfl fun a w F hS=>Za (wp_block ?_)
 obtain ⟨F,hS⟩:=hS.nm [13,12,1,0] [0] rfl rfl
 refine Zbe (σ:=Nat) (fun s=>(⟨[(0,.pv (.sl rOp x)),(1,.pv (.sl rOp y)),(12,.pv (.int .i64 x.length)),(13,.pv (.int .i64 s))],[(0,frame B)]⟩:En)) (fun s=>s≤x.length ∧ ∀ j,j<s→Go.Gm.nth x j=Go.Gm.nth y j) (fun s=>x.length - s) 0 hS ⟨Nat.zero_le _,fun j hj=>absurd hj (Nat.not_lt_zero j)⟩ ?_
 clear hS;intro i a w F hC hS
 try dsimp only at hC
 try dsimp only at hS
 obtain ⟨hi,hq⟩:=hC
 refine wp_seq ?_
 refine Zb hS (qL r2) hB [14,13,12,1,0] [0] rfl rfl fun a w F hS=>Za (wp_seq ?_)
 refine Zd hS rfl (fun hc1=>?_) (fun hc1=>?_)
 ·skip
  have hil:i<x.length:=by simp at hc1;omega
  refine wp_skip (Za (wp_seq (wp_block (wp_seq ?_))))
  refine Zb hS (qM rfl rfl (qN rfl rfl qZ)) hB [13,12,5,1,0] [0] rfl rfl fun a w F hS=>Za (wp_seq ?_)
  refine ZE hS (qM rfl rfl (qM rfl rfl (qy 4 Tryz.underlying38 r2 (qf (oR true 4 .t) r1 qz (qM rfl rfl (qM rfl rfl (qy 4 Tryz.underlying38 r2 (qf (oR true 4 .t) r1 qz (qf (Zlh (ks:=[false,true,true,true]) (by kernel_rfl) .t .t (.bool (.int (.int (.int .nil))))) r2 qz qZ))))))))) hB [24,13,12,1,0] [0] rfl rfl fun a w F hS=>?_
  try dsimp only [List.map,xD,xE,xT,xU,ldSF] at hS
  refine Za ?_
  refine Zd hS rfl (fun hc2=>?_) (fun hc2=>?_)
  ·skip
   have hg:false=decide (x=y):=by
     rw [eq_comm,decide_eq_false_iff_not]
     intro h
     subst h
     simp at hc2
   refine wp_seq ?_
   refine Zb hS qB hB [13,12,4,1,0] [0] rfl rfl fun a w F hS=>Za (wp_ret (Zm (Zg (Zg (Zm (Zg ?_))))))
   refine Zr hfr hS rfl rfl rfl (.bool hg)
  rw [Int.toNat_natCast] at hc2
  have hqi:Go.Gm.nth x i=Go.Gm.nth y i:=ZmP hc2
  refine wp_skip (Zi (Za ?_))
  refine Zb hS (qp r1 (qM rfl rfl qZ)) hB [13,12,1,0] [0] rfl rfl fun a w F hS=>Za ?_
  replace hS:=hS.ent (i:=13) (s':=.pv (.int .i64 ((i+1:Nat):Int))) rfl (.int (Ze (by omega)))
  obtain ⟨F,hS⟩:=hS.nm [13,12,1,0] [0] rfl rfl
  exact ⟨i+1,F,⟨by omega,fun j hj=>by rcases Nat.lt_or_eq_of_le (Nat.le_of_lt_succ hj) with h | h;exact hq j h;rw [h];exact hqi⟩,hS,by omega⟩
 have hg:true=decide (x=y):=by
   rw [eq_comm,decide_eq_true_eq]
   exact Zbm hl fun j hj=>hq j (by simp at hc1;omega)
 refine wp_exit (Zk (Zk (Zq (Za (wp_seq ?_)))))
 refine Zb hS qB hB [4] [0] rfl rfl fun a w F hS=>Za (wp_ret ?_)
 refine Zr hfr hS rfl rfl rfl (.bool hg)
theorem Zl7 (x y:List OpD):FnP Tryz.prog 142 [.sl rOp x,.sl rOp y] (.bool (decide (x=y))):=by
 refine FnP.mk Tryz.func142 rfl Tryz.ntmps142 rfl ?_
 intro B a w F hB hfr hS
 refine wp_seq ?_
 refine Zb hS qB hB [4,1,0] [0] rfl rfl fun a w F hS=>Za (wp_seq ?_)
 refine Zb hS (qM rfl rfl (qM rfl rfl (qf (oP (Znx x y) Tryz.func188 (Args.two .t .t)) r2 qz (qN rfl rfl qZ)))) hB [4] [0] rfl rfl fun a w F hS=>Za (wp_ret ?_)
 refine Zr hfr hS rfl rfl rfl .refl
structure CmdD where
 kind:Int
 tx:TxD
 order:OrdD
 key:Int
 id:Int
 place:Int
 phen:Int
 deriving DecidableEq,Inhabited
structure ZoB where
 s:List UInt8
 least:Int
 most:Int
def rCmd (c:CmdD):List PV:=[.int .i64 c.kind,.int .i64 c.tx.id,.bool c.tx.done,.sl rOp c.tx.ops,.int .i64 c.order.key,.sl rInt c.order.txs,.int .i64 c.key,.int .i64 c.id,.int .i64 c.place,.int .i64 c.phen]
def zeroT:TxD:=⟨0,false,[]⟩
def zeroC (k:Int):CmdD:=⟨k,zeroT,⟨0,[]⟩,0,0,0,0⟩
def ZoT:List UInt8:=[97,100,100]
def ZoR:List UInt8:=[115,101,116]
def ZoP:List UInt8:=[100,101,108]
def ZoS:List UInt8:=[111,114,100]
def ZoN:List UInt8:=[109,111,118]
def Zon:List UInt8:=[117,110,100,111]
def Zoq:List UInt8:=[114,101,100,111]
def ZoU:List UInt8:=[97,115,107]
def ZoL:List UInt8:=[119,104,121]
def Zoo:List UInt8:=[116,101,108,108]
def Zoy:List UInt8:=[115,105,122,101]
def Zos:List UInt8:=[100,117,109,112]
def Zov (k:Int):ZoB:=
 if k=1 then ⟨ZoT,3,1073741824⟩ else if k=2 then ⟨ZoR,3,1073741824⟩ else if k=3 then ⟨ZoP,2,2⟩ else if k=4 then ⟨ZoS,2,1073741824⟩
 else if k=5 then ⟨ZoN,4,4⟩ else if k=6 then ⟨Zon,1,1⟩ else if k=7 then ⟨Zoq,1,1⟩ else if k=8 then ⟨ZoU,1,1⟩
 else if k=9 then ⟨ZoL,2,2⟩ else if k=10 then ⟨Zoo,2,2⟩ else if k=11 then ⟨Zoy,1,1⟩ else if k=12 then ⟨Zos,1,1⟩ else ⟨[],0,0⟩
def Zox (p:Int):List UInt8:=if p=1 then [103,48] else if p=2 then [103,49,97] else if p=3 then [103,49,98] else if p=4 then [103,49,99] else if p=5 then [103,50] else []
def Zot (c:CmdD):CmdD:=
 if c.kind=1∨c.kind=2 then {zeroC c.kind with tx:=c.tx} else if c.kind=3∨c.kind=10 then {zeroC c.kind with id:=c.id} else if c.kind=4 then {zeroC c.kind with order:=c.order}
 else if c.kind=5 then {zeroC c.kind with key:=c.key,id:=c.id,place:=c.place} else if c.kind=9 then {zeroC c.kind with phen:=c.phen} else zeroC c.kind
def ZnL (c:CmdD):Prop:=(Zov c.kind).s≠[]∧c=Zot c∧c.tx.ops.length≤4095∧¬ (c.kind=9∧Zox c.phen = [])
instance (c:CmdD):Decidable (ZnL c):=by unfold ZnL;exact inferInstance
theorem kinds {k:Int} (h:1≤k∧k≤12):k=1∨k=2∨k=3∨k=4∨k=5∨k=6∨k=7∨k=8∨k=9∨k=10∨k=11∨k=12:=by omega
end Go.Proofs.YtjhapicamnijnaaGreat
