/- Needs. No condition beyond those that each theorem says. -/
import Derived.Test.YtcfgcpcakdknkaaGreatTx9
namespace Go.Proofs.YtcfgcpcakdknkaaGreat
open Go Go.Gm
set_option linter.unusedVariables false
set_option linter.unusedSimpArgs false
set_option maxHeartbeats 4000000
set_option maxRecDepth 8000
theorem verD_is {u v:VerD} {r:Bool} (h:(decide (u.tx=v.tx) && (decide (u.key=v.key) && (decide (u.nth=v.nth) && true)))=r):r=decide (u=v):=by
 cases u;cases v
 rw [← h,Bool.eq_iff_iff]
 simp
theorem inVers_c (l:List VerD) (v:VerD):FnP Tryz.prog 164 [.sl rVer l,.agg (rVer v)] (.bool (decide (v ∈ l))):=by
 refine FnP.mk Tryz.func164 rfl Tryz.ntmps164 rfl ?_
 intro B a w F hB hfr hS
 have hll:=Sat.lenSl hS (i:=0) rfl
 refine wp_seq ?_
 refine region_q hS (qf (oX 101 (.conv .t .agg)) r1 qz (qf (oN .cb) trivial qz qZ)) hB ?_
 clear hS;intro a w F hS
 replace hS:=hS.sub
 obtain ⟨F,hS⟩:=hS.nm [4,3,0] [101,0] rfl rfl
 try dsimp only [RS.sub,SF.sub,CF.sub,csub,Anc.sub,List.map,zCF,rVer] at hS
 generalize Act.tau a 3=v3 at hS
 refine then_n (wp_seq (wp_seq ?_))
 refine region_z hS (qM rfl rfl (qf (o_len_sl Tryz.underlying150 .t) r1 qz (qf (oM qi) trivial qz qZ))) hB [9,8,7,4,3] [101,0] rfl rfl ?_
 clear hS;intro a w F hS
 refine then_n (wp_block ?_)
 refine loop_keep (σ:=(Nat)) [3,4,7,8] [0,101] (fun s=>[(9,.pv (.int .i64 (s:Int)))]) (fun s=>[]) (fun s=>s≤l.length∧(∀ k,k<s→Go.Gm.nth l k≠v)) (fun s=>l.length - s) (0) hS ⟨rfl,rfl,rfl,rfl,rfl,trivial⟩ ⟨rfl,rfl,trivial⟩ ⟨Nat.zero_le _,fun k hk=>absurd hk (Nat.not_lt_zero k)⟩ ?_
 clear hS;intro i a w F hC hS
 try dsimp only at hC
 obtain ⟨F,hS⟩:=hS.nm [9,8,7,4,3] [101,0] rfl rfl
 try dsimp only at hS
 obtain ⟨hi,hq⟩:=hC
 refine wp_seq ?_
 refine region_z hS (qf (o_lss .t .t) r2 qz qZ) hB [10,9,8,7,4,3] [101,0] rfl rfl ?_
 clear hS;intro a w F hS
 refine then_n (wp_seq ?_)
 refine cond_b hS rfl (fun hc0=>?_) (fun hc0=>?_)
 ·skip
  have hil:i<l.length:=by simp at hc0;omega
  refine wp_skip (then_n (wp_seq (wp_block (wp_seq ?_))))
  refine region_q hS (qf (o_indexAddr_sl (sz:=3) (.mk Tryz.underlying150 (by kernel_rfl)) (by intro x;rfl) .t .t (by omega) (by omega)) r2 qz (qf (oR true 3 .t) r1 qz (qf (oH [.int .i64 0,.int .i64 0,.int .i64 0] 102) trivial qz (qf (oA 3 102 .same .t) r2 r1 qZ)))) hB ?_
  clear hS;intro a w F hS
  replace hS:=hS.sub
  obtain ⟨F,hS⟩:=hS.nm [12,11,10,9,8,7,6,4,3] [102,101,0] rfl rfl
  try dsimp only [RS.sub,SF.sub,CF.sub,csub,Anc.sub,List.map,stCells,xL,xM,Nat.reduceAdd,xD,xE,xT,xU,xC,xN,zCF,ldSF,rVer] at hS
  generalize Act.tau a 6=v6 at hS
  try simp only [Int.toNat_natCast] at hS
  refine then_n (wp_seq ?_)
  refine region_z hS (qf (oL true 3 102 .is) r1 r1 (qf (oL true 3 101 .is) r1 r1 (qf (o_eqlS (ks:=[true,true,true]) (by kernel_rfl) .t .t (.int (.int (.int .nil)))) r2 qz qZ))) hB [15,14,13,12,11,10,9,8,7,6,4,3] [102,101,0] rfl rfl ?_
  clear hS;intro a w F hS
  refine then_n ?_
  refine cond_b hS rfl (fun hc1=>?_) (fun hc1=>?_)
  ·skip
   have hg:true=decide (v ∈ l):=(decide_eq_true (by have h9:=(verD_is hc1).symm;rw [decide_eq_true_eq] at h9;rw [← h9];exact nth_mem hil)).symm
   refine wp_seq ?_
   refine region_z hS (qf (oN .cb) trivial qz qZ) hB [15,14,13,12,11,10,9,8,7,6,4,3] [102,101,0] rfl rfl ?_
   clear hS;intro a w F hS
   refine then_n (wp_ret (block_r (then_r (then_r (block_r (then_r ?_))))))
   refine ret_P hfr hS rfl (.tmp rfl .nil) (.one (.bool hg))
  have hne:Go.Gm.nth l i≠v:=by have h9:=(verD_is hc1).symm;rwa [decide_eq_false_iff_not] at h9
  refine wp_skip (block_n (then_n ?_))
  refine region_z hS (qf (o_add .t qi) r1 qz (qM rfl rfl qZ)) hB [16,15,14,13,12,11,10,9,8,7,6,4,3] [102,101,0] rfl rfl ?_
  clear hS;intro a w F hS
  refine then_n ?_
  replace hS:=hS.ent (i:=9) (s':=.pv (.int .i64 ((i+1:Nat):Int))) rfl (.int (wrap_succ (by omega)))
  obtain ⟨F,hS⟩:=hS.nm [8,7,4,3,9] [101,0] rfl rfl
  exact ⟨(i+1),F,⟨by omega,(fun k hk=>by rcases Nat.lt_or_eq_of_le (Nat.le_of_lt_succ hk) with h | h;exact hq k h;rw [h];exact hne)⟩,hS,by omega⟩
 have hil:i=l.length:=by simp at hc0;omega
 have hg:false=decide (v ∈ l):=by
   rw [eq_comm,decide_eq_false_iff_not]
   intro hv
   obtain ⟨k,hk,e⟩:=List.getElem_of_mem hv
   exact hq k (by simp at hc0;omega) (by rw [nth_eq hk];exact e)
 refine wp_exit (then_x (then_x (block_x (then_n (wp_seq ?_)))))
 refine region_z hS (qf (oN .cb) trivial qz qZ) hB [4] [101,0] rfl rfl ?_
 clear hS;intro a w F hS
 refine then_n (wp_ret ?_)
 refine ret_P hfr hS rfl (.tmp rfl .nil) (.one (.bool hg))
theorem txNeeds_c (t:TxD) (hl:t.ops.length≤1000000):FnP Tryz.prog 140 [.agg (rTx t)] (.sl rVer (needsT t)):=by
 refine FnP.mk Tryz.func140 rfl Tryz.ntmps140 rfl ?_
 intro B a w F hB hfr hS
 refine wp_seq ?_
 refine region_q hS (qf (oX 101 (.conv .t .agg)) r1 qz (qf (oN (.c rfl)) trivial qz qZ)) hB ?_
 clear hS;intro a w F hS
 replace hS:=hS.sub
 obtain ⟨F,hS⟩:=hS.nm [2,1] [101,0] rfl rfl
 try dsimp only [RS.sub,SF.sub,CF.sub,csub,Anc.sub,List.map,zCF,rInt,rOp,rTx,rVer] at hS
 generalize Act.tau a 1=v1 at hS
 refine then_n (wp_seq ?_)
 refine region_z hS (qf (oN (.c rfl)) trivial qz qZ) hB [3,2,1] [101,0] rfl rfl ?_
 clear hS;intro a w F hS
 refine then_n (wp_seq ?_)
 refine region_q hS (qf (o_makeMapG (ek:=(fun n:Int=>PV.int .i64 n)) (ok:=(fun k=>∀ x ∈ encVer k,inR .i64 x)) (kv:=(kvS encVer)) 102) trivial qz (qN rfl rfl qZ)) hB ?_
 clear hS;intro a w F hS
 replace hS:=hS.sub
 obtain ⟨F,hS⟩:=hS.nm [4,3,2,1] [102,101,0] rfl rfl
 try dsimp only [RS.sub,SF.sub,CF.sub,csub,Anc.sub,List.map,stCells,xL,xM,Nat.reduceAdd,xD,xE,xT,xU,xC,xN,zCF,rInt,rOp,rTx,rVer] at hS
 generalize Act.tau a 8=v8 at hS
 refine then_n (wp_seq (wp_seq ?_))
 refine region_z hS (qf (oF 2 101 .is) r1 r1 (qf (oL false 1 101 .adr) r1 r1 (qf (o_len_sl Tryz.underlying32 .t) r1 qz (qf (oM qi) trivial qz qZ)))) hB [12,11,10,4,3,2,1] [102,101,0] rfl rfl ?_
 clear hS;intro a w F hS
 refine then_n (wp_block ?_)
 replace hS:=hS.fresh 50 rfl
 replace hS:=hS.turn 50 rfl (nilRow (T:=153) (sz:=3) (R:=rVer))
 refine loop_keep (σ:=(Nat)×(List (GE VerD Int))×(Nat)×(Value)×(List VerD)) [1,2,4,10,11] [0,101] (fun s=>[(12,.pv (.int .i64 (s.1:Int))),(3,.pv (.is s.2.2.2.1))]) (fun s=>[(102,.ob (.val v8) (mapG (fun n:Int=>PV.int .i64 n) (fun k=>∀ x ∈ encVer k,inR .i64 x) (kvS encVer) s.2.1 s.2.2.1)),(50,.ob (.val s.2.2.2.1) (rowH 153 3 rVer s.2.2.2.2))]) (fun s=>s.1≤t.ops.length∧(s.2.2.2.2=needsL t.id (t.ops.take s.1)∧VerInv s.2.1 s.1 s.2.2.2.2)) (fun s=>t.ops.length - s.1) ((0),([]),(0),(.slice none 0 0),([])) hS ⟨rfl,rfl,rfl,rfl,rfl,rfl,rfl,trivial⟩ ⟨rfl,rfl,rfl,rfl,trivial⟩ ⟨Nat.zero_le _,⟨rfl,ver_zero⟩⟩ ?_
 clear hS;intro s a w F hC hS
 obtain ⟨i,es,ck,v,out⟩:=s
 try dsimp only at hC
 obtain ⟨F,hS⟩:=hS.nm [12,11,10,4,3,2,1] [102,101,50,0] rfl rfl
 try dsimp only at hS
 obtain ⟨hi,hq⟩:=hC
 obtain ⟨hou,hvi⟩:=hq
 have hol:out.length≤i:=by rw [hou];exact needsL_len _ _ _
 have hst:=fun hil:i<t.ops.length=>needsL_step (id:=t.id) hil
 refine wp_seq ?_
 refine region_z hS (qf (o_lss .t .t) r2 qz qZ) hB [13,12,11,10,4,3,2,1] [102,101,50,0] rfl rfl ?_
 clear hS;intro a w F hS
 refine then_n (wp_seq ?_)
 refine cond_b hS rfl (fun hc0=>?_) (fun hc0=>?_)
 ·skip
  have hil:i<t.ops.length:=by simp at hc0;omega
  refine wp_skip (then_n (wp_seq (wp_block (wp_seq ?_))))
  refine region_q hS (qf (o_indexAddr_sl (sz:=4) (.mk Tryz.underlying32 (by kernel_rfl)) (by intro x;rfl) .t .t (by omega) (by omega)) r2 qz (qf (oR true 4 .t) r1 qz (qf (oH [.bool false,.int .i64 0,.int .i64 0,.int .i64 0] 103) trivial qz (qf (oA 4 103 .same .t) r2 r1 qZ)))) hB ?_
  clear hS;intro a w F hS
  replace hS:=hS.sub
  obtain ⟨F,hS⟩:=hS.nm [15,14,13,12,11,10,6,4,3,2,1] [103,102,101,50,0] rfl rfl
  try dsimp only [RS.sub,SF.sub,CF.sub,csub,Anc.sub,List.map,stCells,xL,xM,Nat.reduceAdd,xD,xE,xT,xU,xC,xN,zCF,ldSF,rInt,rOp,rTx,rVer] at hS
  generalize Act.tau a 6=v6 at hS
  try simp only [Int.toNat_natCast] at hS
  refine then_n (wp_seq ?_)
  refine region_q hS (qf (oL true 4 103 .is) r1 r1 (qf (oP (opOf_c (Go.Gm.nth t.ops i)) Tryz.func167 (Args.one (.pagg .t))) r1 qz (qf (oH [.int .i64 0,.int .i64 0,.int .i64 0] 104) trivial qz (qf (oA 3 104 .same (.conv .t .agg)) r2 r1 qZ)))) hB ?_
  clear hS;intro a w F hS
  replace hS:=hS.sub
  obtain ⟨F,hS⟩:=hS.nm [17,16,15,14,13,12,11,10,7,6,4,3,2,1] [104,103,102,101,50,0] rfl rfl
  try dsimp only [RS.sub,SF.sub,CF.sub,csub,Anc.sub,List.map,stCells,xL,xM,Nat.reduceAdd,xD,xE,xT,xU,xC,xN,zCF,ldSF,rInt,rOp,rTx,rVer] at hS
  generalize Act.tau a 7=v7 at hS
  refine then_n (wp_seq (wp_seq ?_))
  refine region_z hS (qf (oF 0 103 .is) r1 r1 (qf (oL false 1 103 .adr) r1 r1 (qf (o_not .t) r1 qz (qM rfl rfl (qk rfl (fun h=>oF 0 104 .is) r2 r1 (qk rfl (fun h=>oL false 1 104 (.w h .adr)) r2 r1 (qk rfl (fun h=>o_eql (.w h) qi) r2 qz (qf (o_or2 .t .t) r2 qz (qM rfl rfl (qk rfl (fun h=>oF 0 104 .is) r2 r1 (qk rfl (fun h=>oL false 1 104 (.w h .adr)) r2 r1 (qk rfl (fun h=>oF 0 101 .is) r2 r1 (qk rfl (fun h=>oL false 1 101 (.w h .adr)) r2 r1 (qk rfl (fun h=>o_eql (.w h) (.w h)) r3 qz (qf (o_or2 .t .t) r2 qz qZ))))))))))))))) hB [32,31,30,29,28,27,26,25,24,23,22,21,20,19,18,17,16,15,14,13,12,11,10,7,6,4,3,2,1] [104,103,102,101,50,0] rfl rfl ?_
  clear hS;intro a w F hS
  refine then_n ?_
  refine cond_b hS rfl (fun hc1=>?_) (fun hc1=>?_)
  ·skip
   have hno:needO t.id (Go.Gm.nth t.ops i)=false:=by unfold needO;unfold ofO at hc1;cases hr:(Go.Gm.nth t.ops i).read <;> simp [hr] at hc1 ⊢;omega
   obtain ⟨es2,he2⟩:∃ z,z=es:=⟨_,rfl⟩
   obtain ⟨ck2,hc2⟩:∃ z,z=ck:=⟨_,rfl⟩
   obtain ⟨out2,ho2⟩:∃ z,z=out:=⟨_,rfl⟩
   have hR2:out2=needsL t.id (t.ops.take (i+1))∧VerInv es2 (i+1) out2:=⟨by rw [ho2,hou,hst hil];unfold needStep;rw [if_neg (by rw [hno];simp)],by rw [he2,ho2];exact ver_more hvi⟩
   rw [← he2,← hc2,← ho2] at hS
   refine wp_exit (then_x (block_x (then_n ?_)))
   refine region_z hS (qf (o_add .t qi) r1 qz (qM rfl rfl qZ)) hB [47,32,31,30,29,28,27,26,25,24,23,22,21,20,19,18,17,16,15,14,13,12,11,10,7,6,4,3,2,1] [104,103,102,101,50,0] rfl rfl ?_
   clear hS;intro a w F hS
   refine then_n ?_
   replace hS:=hS.ent (i:=12) (s':=.pv (.int .i64 ((i+1:Nat):Int))) rfl (.int (wrap_succ (by omega)))
   obtain ⟨F,hS⟩:=hS.nm [11,10,4,2,1,3,12] [101,0,50,102] rfl rfl
   exact ⟨((i+1),(es2),(ck2),_,(out2)),F,⟨by omega,hR2⟩,hS,by omega⟩
  have hyes:needO t.id (Go.Gm.nth t.ops i)=true:=by unfold needO;unfold ofO at hc1;cases hr:(Go.Gm.nth t.ops i).read <;> simp [hr] at hc1 ⊢;exact hc1
  have hvr:=hvi (ofO (Go.Gm.nth t.ops i))
  have hw1:IntKind.wrap .i64 (((gGet (ofO (Go.Gm.nth t.ops i)) es).getD 0)+1)=((gGet (ofO (Go.Gm.nth t.ops i)) es).getD 0)+1:=wrap_i64 (by have:=Sat.lenSl hS (i:=10) rfl;omega)
  refine wp_skip (then_n (wp_seq ?_))
  replace hS:=hS.turnZ 102 (0) (ofO (Go.Gm.nth t.ops i)) rfl
  refine region_anyS 102 6 (m1:=1) (m2:=2) (by kernel_rfl) hS (by kernel_rfl) (qM rfl rfl (qf (oL true 3 104 .is) r1 r1 (qf (o_lookupZ (ek:=(fun n:Int=>PV.int .i64 n)) (z0:=(0)) 102 Tryz.underlying186 keyVer (by kernel_rfl) (fun _ _=>⟨rfl,inR0⟩) .is (IsKeyOf.agg (enc:=encVer) (k:=(ofO (Go.Gm.nth t.ops i))) (.pagg .t) rfl)) r2 r1 (qf (o_add .t qi) r1 qz (qf (o_mapEntryZ (ek:=(fun n:Int=>PV.int .i64 n)) (z0:=(0)) 102 Tryz.underlying186 keyVer (by kernel_rfl) (fun _ _=>⟨rfl,inR0⟩) .is (IsKeyOf.agg (enc:=encVer) (k:=(ofO (Go.Gm.nth t.ops i))) (.pagg .t) rfl) (by intros;first | rfl | simp [Anc.v,upd])) r2 r1 (qf (o_extract .t rfl) r1 qz (qf (o_entryStoreG 102 (gEns_born _ _ _) .is .t .t) r3 r1 qZ))))))) (by kernel_rfl) (by kernel_rfl) (by kernel_rfl) rfl rfl rfl (fun _ _ _ _ h=>.inr h) (by rw [hB];kernel_rfl) ?_
  clear hS;intro a w F hS
  obtain ⟨F,hS⟩:=hS.nm [38,37,36,35,34,33,32,31,30,29,28,27,26,25,24,23,22,21,20,19,18,17,16,15,14,13,12,11,10,7,6,4,3,2,1] [104,103,102,101,50,0] rfl rfl
  try dsimp only [List.map,xD,xE,xT,xU,ldSF,rInt,rOp,rTx,rVer] at hS
  obtain ⟨es2,he2⟩:∃ z,z=gSet (ofO (Go.Gm.nth t.ops i)) (IntKind.wrap .i64 (((gGet (ofO (Go.Gm.nth t.ops i)) es).getD 0)+1)) (gEns 0 (ofO (Go.Gm.nth t.ops i)) (es,ck)).1:=⟨_,rfl⟩
  obtain ⟨ck2,hc2⟩:∃ z,z=(gEns 0 (ofO (Go.Gm.nth t.ops i)) (es,ck)).2:=⟨_,rfl⟩
  rw [← he2,← hc2] at hS
  have hvv:∀ u,(gGet u es2).getD 0=if u=(ofO (Go.Gm.nth t.ops i)) then ((gGet (ofO (Go.Gm.nth t.ops i)) es).getD 0)+1 else (gGet u es).getD 0:=fun u=>by rw [he2,gVal_entry,hw1]
  have hmv:(gGet (ofO (Go.Gm.nth t.ops i)) es2).getD 0=((gGet (ofO (Go.Gm.nth t.ops i)) es).getD 0)+1:=by rw [hvv,if_pos rfl]
  have hvs:=ver_step hvi hvv
  refine then_n (wp_seq ?_)
  refine region_z hS (qM rfl rfl (qf (oL true 3 104 .is) r1 r1 (qf (o_lookupG (ek:=(fun n:Int=>PV.int .i64 n)) (z0:=(0)) 102 Tryz.underlying186 keyVer (by kernel_rfl) (fun _ _=>⟨rfl,inR0⟩) .is (IsKeyOf.agg (enc:=encVer) (k:=(ofO (Go.Gm.nth t.ops i))) (.pagg .t) rfl)) r2 r1 (qf (o_eql .t qi) r1 qz qZ)))) hB [42,41,40,39,38,37,36,35,34,33,32,31,30,29,28,27,26,25,24,23,22,21,20,19,18,17,16,15,14,13,12,11,10,7,6,4,3,2,1] [104,103,102,101,50,0] rfl rfl ?_
  clear hS;intro a w F hS
  refine then_n ?_
  refine cond_b hS rfl (fun hc2=>?_) (fun hc2=>?_)
  ·skip
   have hnm:(ofO (Go.Gm.nth t.ops i)) ∉ out:=by rw [← hvr.2.2];rw [hmv] at hc2;simp at hc2;omega
   obtain ⟨out2,ho2⟩:∃ z,z=out ++ [(ofO (Go.Gm.nth t.ops i))]:=⟨_,rfl⟩
   have hR2:out2=needsL t.id (t.ops.take (i+1))∧VerInv es2 (i+1) out2:=⟨by rw [ho2,hst hil];unfold needStep;rw [if_pos ⟨hyes,by rw [← hou];exact hnm⟩,← hou],by have:=hvs;rw [if_neg hnm] at this;rw [ho2];exact this⟩
   refine region_q hS (qM rfl rfl (qf (oL true 3 104 .is) r1 r1 (qf (o_buildSliceE (sz:=3) (zs:=[.int .i64 0,.int .i64 0,.int .i64 0]) (r:=[(0,.tmp 44)]) (l:=[_,_,_]) Tryz.underlying150 (by kernel_rfl) (by kernel_rfl) (by kernel_rfl) (by kernel_rfl) rfl rfl (.agg rfl .t (by kernel_rfl) (by kernel_rfl) .nil) rfl) r1 qz (qf (o_append (sz:=3) (bs:=24) 50 (.mk' Tryz.underlying150 (by kernel_rfl) (by kernel_rfl)) (by intro x;rfl) .is (.arr (l':=[_]) .t) (by simp only [List.length_append,List.length_cons,List.length_nil,List.length_take,List.length_drop];omega) (by decide)) ⟨rfl,rfl,trivial⟩ ⟨rfl,trivial⟩ (qN rfl rfl qZ))))) hB ?_
   clear hS;intro a w F hS
   replace hS:=hS.sub
   obtain ⟨F,hS⟩:=hS.nm [46,45,44,43,42,41,40,39,38,37,36,35,34,33,32,31,30,29,28,27,26,25,24,23,22,21,20,19,18,17,16,15,14,13,12,11,10,7,6,4,3,2,1] [104,103,102,101,50,0] rfl rfl
   try dsimp only [RS.sub,SF.sub,CF.sub,csub,Anc.sub,List.map,stCells,xL,xM,Nat.reduceAdd,xD,xE,xT,xU,xC,xN,zCF,ldSF,rInt,rOp,rTx,rVer] at hS
   generalize Act.tau a 46=v46 at hS
   rw [← ho2] at hS
   refine block_n (then_n ?_)
   refine region_z hS (qf (o_add .t qi) r1 qz (qM rfl rfl qZ)) hB [47,46,45,44,43,42,41,40,39,38,37,36,35,34,33,32,31,30,29,28,27,26,25,24,23,22,21,20,19,18,17,16,15,14,13,12,11,10,7,6,4,3,2,1] [104,103,102,101,50,0] rfl rfl ?_
   clear hS;intro a w F hS
   refine then_n ?_
   replace hS:=hS.ent (i:=12) (s':=.pv (.int .i64 ((i+1:Nat):Int))) rfl (.int (wrap_succ (by omega)))
   obtain ⟨F,hS⟩:=hS.nm [11,10,4,2,1,3,12] [101,0,50,102] rfl rfl
   exact ⟨((i+1),(es2),(ck2),_,(out2)),F,⟨by omega,hR2⟩,hS,by omega⟩
  have hnm:(ofO (Go.Gm.nth t.ops i)) ∈ out:=by rw [← hvr.2.2];rw [hmv] at hc2;simp at hc2;omega
  obtain ⟨out2,ho2⟩:∃ z,z=out:=⟨_,rfl⟩
  have hR2:out2=needsL t.id (t.ops.take (i+1))∧VerInv es2 (i+1) out2:=⟨by rw [ho2,hst hil];unfold needStep;rw [if_neg (by rw [← hou];simp [hnm])];exact hou,by have:=hvs;rw [if_pos hnm] at this;rw [ho2];exact this⟩
  rw [← ho2] at hS
  refine wp_skip (block_n (then_n ?_))
  refine region_z hS (qf (o_add .t qi) r1 qz (qM rfl rfl qZ)) hB [47,42,41,40,39,38,37,36,35,34,33,32,31,30,29,28,27,26,25,24,23,22,21,20,19,18,17,16,15,14,13,12,11,10,7,6,4,3,2,1] [104,103,102,101,50,0] rfl rfl ?_
  clear hS;intro a w F hS
  refine then_n ?_
  replace hS:=hS.ent (i:=12) (s':=.pv (.int .i64 ((i+1:Nat):Int))) rfl (.int (wrap_succ (by omega)))
  obtain ⟨F,hS⟩:=hS.nm [11,10,4,2,1,3,12] [101,0,50,102] rfl rfl
  exact ⟨((i+1),(es2),(ck2),_,(out2)),F,⟨by omega,hR2⟩,hS,by omega⟩
 have hil:i=t.ops.length:=by simp at hc0;omega
 refine wp_exit (then_x (then_x (block_x (then_n (wp_seq ?_)))))
 refine region_z hS (qM rfl rfl (qN rfl rfl qZ)) hB [2] [102,101,50,0] rfl rfl ?_
 clear hS;intro a w F hS
 refine then_n (wp_ret ?_)
 obtain ⟨F,hS⟩:=hS.give 50 2 rfl rfl
 refine ret_P hfr hS rfl (.tmp rfl .nil) (.one (.sl (by rw [hou,hil,List.take_length];rfl)))
theorem refNeeds_c (t:TxD) (hl:t.ops.length≤1000000):FnP Tryz.prog 128 [.agg (rTx t)] (.sl rVer (needsT t)):=by
 refine FnP.mk Tryz.func128 rfl Tryz.ntmps128 rfl ?_
 intro B a w F hB hfr hS
 refine wp_seq ?_
 refine region_q hS (qf (oX 101 (.conv .t .agg)) r1 qz (qf (oN (.c rfl)) trivial qz qZ)) hB ?_
 clear hS;intro a w F hS
 replace hS:=hS.sub
 obtain ⟨F,hS⟩:=hS.nm [2,1] [101,0] rfl rfl
 try dsimp only [RS.sub,SF.sub,CF.sub,csub,Anc.sub,List.map,zCF,rInt,rOp,rTx,rVer] at hS
 generalize Act.tau a 1=v1 at hS
 refine then_n (wp_seq ?_)
 refine region_z hS (qf (oN (.c rfl)) trivial qz qZ) hB [3,2,1] [101,0] rfl rfl ?_
 clear hS;intro a w F hS
 refine then_n (wp_seq (wp_seq ?_))
 refine region_z hS (qf (oF 2 101 .is) r1 r1 (qf (oL false 1 101 .adr) r1 r1 (qf (o_len_sl Tryz.underlying32 .t) r1 qz (qf (oM qi) trivial qz qZ)))) hB [10,9,8,3,2,1] [101,0] rfl rfl ?_
 clear hS;intro a w F hS
 refine then_n (wp_block ?_)
 replace hS:=hS.fresh 50 rfl
 replace hS:=hS.turn 50 rfl (nilRow (T:=153) (sz:=3) (R:=rVer))
 refine loop_keep (σ:=(Nat)×(Value)×(List VerD)) [1,2,8,9] [0,101] (fun s=>[(10,.pv (.int .i64 (s.1:Int))),(3,.pv (.is s.2.1))]) (fun s=>[(50,.ob (.val s.2.1) (rowH 153 3 rVer s.2.2))]) (fun s=>s.1≤t.ops.length∧(s.2.2=needsL t.id (t.ops.take s.1))) (fun s=>t.ops.length - s.1) ((0),(.slice none 0 0),([])) hS ⟨rfl,rfl,rfl,rfl,rfl,rfl,trivial⟩ ⟨rfl,rfl,rfl,trivial⟩ ⟨Nat.zero_le _,rfl⟩ ?_
 clear hS;intro s a w F hC hS
 obtain ⟨i,v,out⟩:=s
 try dsimp only at hC
 obtain ⟨F,hS⟩:=hS.nm [10,9,8,3,2,1] [101,50,0] rfl rfl
 try dsimp only at hS
 obtain ⟨hi,hq⟩:=hC
 have hol:out.length≤i:=by rw [hq];exact needsL_len _ _ _
 have hst:=fun hil:i<t.ops.length=>needsL_step (id:=t.id) hil
 refine wp_seq ?_
 refine region_z hS (qf (o_lss .t .t) r2 qz qZ) hB [11,10,9,8,3,2,1] [101,50,0] rfl rfl ?_
 clear hS;intro a w F hS
 refine then_n (wp_seq ?_)
 refine cond_b hS rfl (fun hc0=>?_) (fun hc0=>?_)
 ·skip
  have hil:i<t.ops.length:=by simp at hc0;omega
  refine wp_skip (then_n (wp_seq (wp_block (wp_seq ?_))))
  refine region_q hS (qf (o_indexAddr_sl (sz:=4) (.mk Tryz.underlying32 (by kernel_rfl)) (by intro x;rfl) .t .t (by omega) (by omega)) r2 qz (qf (oR true 4 .t) r1 qz (qf (oH [.bool false,.int .i64 0,.int .i64 0,.int .i64 0] 102) trivial qz (qf (oA 4 102 .same .t) r2 r1 qZ)))) hB ?_
  clear hS;intro a w F hS
  replace hS:=hS.sub
  obtain ⟨F,hS⟩:=hS.nm [13,12,11,10,9,8,5,3,2,1] [102,101,50,0] rfl rfl
  try dsimp only [RS.sub,SF.sub,CF.sub,csub,Anc.sub,List.map,stCells,xL,xM,Nat.reduceAdd,xD,xE,xT,xU,xC,xN,zCF,ldSF,rInt,rOp,rTx,rVer] at hS
  generalize Act.tau a 5=v5 at hS
  try simp only [Int.toNat_natCast] at hS
  refine then_n (wp_seq ?_)
  refine region_q hS (qf (oL true 4 102 .is) r1 r1 (qf (oP (refOf_c (Go.Gm.nth t.ops i)) Tryz.func163 (Args.one (.pagg .t))) r1 qz (qf (oH [.int .i64 0,.int .i64 0,.int .i64 0] 103) trivial qz (qf (oA 3 103 .same (.conv .t .agg)) r2 r1 qZ)))) hB ?_
  clear hS;intro a w F hS
  replace hS:=hS.sub
  obtain ⟨F,hS⟩:=hS.nm [15,14,13,12,11,10,9,8,6,5,3,2,1] [103,102,101,50,0] rfl rfl
  try dsimp only [RS.sub,SF.sub,CF.sub,csub,Anc.sub,List.map,stCells,xL,xM,Nat.reduceAdd,xD,xE,xT,xU,xC,xN,zCF,ldSF,rInt,rOp,rTx,rVer] at hS
  generalize Act.tau a 6=v6 at hS
  refine then_n (wp_seq ?_)
  refine region_z hS (qf (oF 0 102 .is) r1 r1 (qf (oL false 1 102 .adr) r1 r1 (qM rfl rfl (qk rfl (fun h=>oF 2 102 .is) r2 r1 (qk rfl (fun h=>oL false 1 102 (.w h .adr)) r2 r1 (qk rfl (fun h=>o_neq (.w h) qi) r2 qz (qf (o_and2 .t .t) r2 qz (qM rfl rfl (qk rfl (fun h=>oF 2 102 .is) r2 r1 (qk rfl (fun h=>oL false 1 102 (.w h .adr)) r2 r1 (qk rfl (fun h=>oF 0 101 .is) r2 r1 (qk rfl (fun h=>oL false 1 101 (.w h .adr)) r2 r1 (qk rfl (fun h=>o_neq (.w h) (.w h)) r3 qz (qf (o_and2 .t .t) r2 qz (qM rfl rfl (qm rfl rfl rfl rfl (qk rfl (fun h=>oL true 3 103 .is) r2 r1 (qk rfl (fun h=>OpC.lendRow 50 [31] (oP (inVers_c out (ofO (Go.Gm.nth t.ops i))) Tryz.func164 (Args.two (.w h) (.pagg (.w h)))) ⟨rfl,trivial,trivial⟩ (.pv (fun _ _ _ _ h=>h)) trivial (by rfl)) r3 r1 (qk rfl (fun h=>o_not (.w h)) r2 qz (qf (o_and2 .t .t) r2 qz qZ)))))))))))))))))))) hB [35,34,33,32,31,30,29,28,27,26,25,24,23,22,21,20,19,18,17,16,15,14,13,12,11,10,9,8,6,5,3,2,1] [103,102,101,50,0] rfl rfl ?_
  clear hS;intro a w F hS
  refine then_n ?_
  refine cond_b hS rfl (fun hc1=>?_) (fun hc1=>?_)
  ·skip
   have hBq:(needO t.id (Go.Gm.nth t.ops i)=true∧(ofO (Go.Gm.nth t.ops i)) ∉ needsL t.id (t.ops.take i)):=by rw [← hq];unfold needO;simpa [and_assoc] using hc1
   refine region_q hS (qM rfl rfl (qf (oL true 3 103 .is) r1 r1 (qf (o_buildSliceE (sz:=3) (zs:=[.int .i64 0,.int .i64 0,.int .i64 0]) (r:=[(0,.tmp 37)]) (l:=[_,_,_]) Tryz.underlying150 (by kernel_rfl) (by kernel_rfl) (by kernel_rfl) (by kernel_rfl) rfl rfl (.agg rfl .t (by kernel_rfl) (by kernel_rfl) .nil) rfl) r1 qz (qf (o_append (sz:=3) (bs:=24) 50 (.mk' Tryz.underlying150 (by kernel_rfl) (by kernel_rfl)) (by intro x;rfl) .is (.arr (l':=[_]) .t) (by simp only [List.length_append,List.length_cons,List.length_nil,List.length_take,List.length_drop];omega) (by decide)) ⟨rfl,rfl,trivial⟩ ⟨rfl,trivial⟩ (qN rfl rfl qZ))))) hB ?_
   clear hS;intro a w F hS
   replace hS:=hS.sub
   obtain ⟨F,hS⟩:=hS.nm [39,38,37,36,35,34,33,32,31,30,29,28,27,26,25,24,23,22,21,20,19,18,17,16,15,14,13,12,11,10,9,8,6,5,3,2,1] [103,102,101,50,0] rfl rfl
   try dsimp only [RS.sub,SF.sub,CF.sub,csub,Anc.sub,List.map,stCells,xL,xM,Nat.reduceAdd,xD,xE,xT,xU,xC,xN,zCF,ldSF,rInt,rOp,rTx,rVer] at hS
   generalize Act.tau a 39=v39 at hS
   refine block_n (then_n ?_)
   refine region_z hS (qf (o_add .t qi) r1 qz (qM rfl rfl qZ)) hB [40,39,38,37,36,35,34,33,32,31,30,29,28,27,26,25,24,23,22,21,20,19,18,17,16,15,14,13,12,11,10,9,8,6,5,3,2,1] [103,102,101,50,0] rfl rfl ?_
   clear hS;intro a w F hS
   refine then_n ?_
   replace hS:=hS.ent (i:=10) (s':=.pv (.int .i64 ((i+1:Nat):Int))) rfl (.int (wrap_succ (by omega)))
   obtain ⟨F,hS⟩:=hS.nm [9,8,2,1,3,10] [101,0,50] rfl rfl
   exact ⟨((i+1),_,_),F,⟨by omega,(by rw [hst hil];unfold needStep;first | (rw [if_pos hBq,← hq];done) | (rw [if_neg hBq,← hq]))⟩,hS,by omega⟩
  have hBq:¬ (needO t.id (Go.Gm.nth t.ops i)=true∧(ofO (Go.Gm.nth t.ops i)) ∉ needsL t.id (t.ops.take i)):=by rw [← hq];unfold needO;intro h9;have h8:=hc1;simp at h8 h9;simp [h9] at h8
  refine wp_skip (block_n (then_n ?_))
  refine region_z hS (qf (o_add .t qi) r1 qz (qM rfl rfl qZ)) hB [40,35,34,33,32,31,30,29,28,27,26,25,24,23,22,21,20,19,18,17,16,15,14,13,12,11,10,9,8,6,5,3,2,1] [103,102,101,50,0] rfl rfl ?_
  clear hS;intro a w F hS
  refine then_n ?_
  replace hS:=hS.ent (i:=10) (s':=.pv (.int .i64 ((i+1:Nat):Int))) rfl (.int (wrap_succ (by omega)))
  obtain ⟨F,hS⟩:=hS.nm [9,8,2,1,3,10] [101,0,50] rfl rfl
  exact ⟨((i+1),_,_),F,⟨by omega,(by rw [hst hil];unfold needStep;first | (rw [if_pos hBq,← hq];done) | (rw [if_neg hBq,← hq]))⟩,hS,by omega⟩
 have hil:i=t.ops.length:=by simp at hc0;omega
 refine wp_exit (then_x (then_x (block_x (then_n (wp_seq ?_)))))
 refine region_z hS (qM rfl rfl (qN rfl rfl qZ)) hB [2] [101,50,0] rfl rfl ?_
 clear hS;intro a w F hS
 refine then_n (wp_ret ?_)
 obtain ⟨F,hS⟩:=hS.give 50 2 rfl rfl
 refine ret_P hfr hS rfl (.tmp rfl .nil) (.one (.sl (by rw [hq,hil,List.take_length];rfl)))
end Go.Proofs.YtcfgcpcakdknkaaGreat
