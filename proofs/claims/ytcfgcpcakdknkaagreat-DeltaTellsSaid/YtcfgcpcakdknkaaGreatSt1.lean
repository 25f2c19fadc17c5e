/- The stable sort of the library: its parts. No condition beyond those that each theorem says. -/
import Derived.Test.YtcfgcpcakdknkaaGreatSt0
import Derived.Test.YtcfgcpcakdknkaaGreatLibE
namespace Go.Proofs.YtcfgcpcakdknkaaGreat
open Go Go.Gm
set_option linter.unusedVariables false
set_option linter.unusedSimpArgs false
set_option maxHeartbeats 4000000
set_option maxRecDepth 8000
theorem swpT (v:Value) (l:List TxD) (ka kb kn:Nat) (hll:l.length≤1000000) (h1:ka+kn≤kb) (h2:kb+kn≤l.length) (f:FuncId) (cps:List PV):FnG Tryz.prog 187 1 [.is v,.int .i64 ka,.int .i64 kb,.int .i64 kn,.clos f cps] [rowH 34 3 rTx l v] (.tup []) (fun _=>[rowH 34 3 rTx (swpB l ka kb kn) v]):=by
 refine FnG.mk Tryz.func187 rfl Tryz.ntmps187 rfl (by kernel_rfl) ?_
 intro B F0 a w F hB hG hS
 replace hS:=hS.turn 1 rfl (r':=.ob (.val v) (rowH 34 3 rTx l)) (fun _ _ _ _ h=>h)
 refine wp_seq ?_
 refine region_z hS (qf (oN qi) trivial qz qZ) hB [10,3,2,1,0] [1,0] rfl rfl ?_
 clear hS;intro a w F hS
 refine then_n (wp_block ?_)
 have hc0:0≤kn∧l=swpB l ka kb 0:=⟨Nat.zero_le _,(swpB_zero (by omega) (by omega)).symm⟩
 refine loop_keep (σ:=Nat×List TxD) [0,1,2,3] [0] (fun s=>[(10,.pv (.int .i64 (s.1:Int)))]) (fun s=>[(1,.ob (.val v) (rowH 34 3 rTx s.2))]) (fun s=>s.1≤kn∧s.2=swpB l ka kb s.1) (fun s=>kn - s.1) ((0),(l)) hS ⟨rfl,rfl,rfl,rfl,rfl,trivial⟩ ⟨rfl,rfl,trivial⟩ hc0 ?_
 clear hS;intro s a w F hC hS
 obtain ⟨i,l1⟩:=s
 try dsimp only at hC
 obtain ⟨F,hS⟩:=hS.nm [10,3,2,1,0] [1,0] rfl rfl
 try dsimp only at hS
 obtain ⟨hin,hl1⟩:=hC
 have hn1:l1.length=l.length:=by rw [hl1];exact swpB_len (by omega) (by omega)
 have hwa:IntKind.wrap .i64 ((ka:Int)+(i:Int))=((ka+i:Nat):Int):=by rw [wrap_i64 (by omega)];omega
 have hwb:IntKind.wrap .i64 ((kb:Int)+(i:Int))=((kb+i:Nat):Int):=by rw [wrap_i64 (by omega)];omega
 refine wp_seq (wp_seq ?_)
 refine region_z hS (qM rfl rfl (qM rfl rfl (qf (o_lss .t .t) r2 qz qZ))) hB [13,12,11,10,3,2,1,0] [1,0] rfl rfl ?_
 clear hS;intro a w F hS
 refine then_n ?_
 refine cond_b hS rfl (fun hc0=>?_) (fun hc0=>?_)
 ·skip
  have hil:i<kn:=by simp at hc0;omega
  refine wp_skip (then_n (wp_seq (wp_block ?_)))
  refine region_any (by kernel_rfl) hS (by kernel_rfl) (qM rfl rfl (qM rfl rfl (qM rfl rfl (qf (o_add .t .t) r2 qz (qM rfl rfl (qM rfl rfl (qM rfl rfl (qf (o_add .t .t) r2 qz (qM rfl rfl (qM rfl rfl (qM rfl rfl (qf (o_add .t .t) r2 qz (qf (o_indexAddr_row (sz:=3) 1 (.mk Tryz.underlying27 (by kernel_rfl)) .is .t (by rw [hwb];omega) (by rw [hwb];omega) (by rfl)) r2 r1 (qf (o_load_row0 (ag:=true) (sz':=3) (sz:=3) 1 .t (by intro x;rfl) (by rw [hwb];omega) (by kernel_rfl) (by kernel_rfl) (by kernel_rfl)) r1 r1 (qM rfl rfl (qM rfl rfl (qM rfl rfl (qf (o_add .t .t) r2 qz (qf (o_indexAddr_row (sz:=3) 1 (.mk Tryz.underlying27 (by kernel_rfl)) .is .t (by rw [hwa];omega) (by rw [hwa];omega) (by rfl)) r2 r1 (qf (o_load_row0 (ag:=true) (sz':=3) (sz:=3) 1 .t (by intro x;rfl) (by rw [hwa];omega) (by kernel_rfl) (by kernel_rfl) (by kernel_rfl)) r1 r1 (qf (o_indexAddr_row (sz:=3) 1 (.mk Tryz.underlying27 (by kernel_rfl)) .is .t (by rw [hwa];omega) (by rw [hwa];omega) (by rfl)) r2 r1 (qf (o_store_row (sz:=3) 1 .t (by intro x;rfl) (by rw [hwa];omega) (.conv .t (Ent.aggU (l:=rTx (Go.Gm.nth l1 (IntKind.wrap .i64 ((kb:Int)+(i:Int))).toNat)) rfl rfl)) (by kernel_rfl)) r2 r1 (qf (o_indexAddr_row (sz:=3) 1 (.mk Tryz.underlying27 (by kernel_rfl)) .is .t (by rw [hwb];omega) (by rw [List.length_set,hwb];omega) (by rfl)) r2 r1 (qf (o_store_row (sz:=3) 1 .t (by intro x;rfl) (by rw [List.length_set,hwb];omega) (.conv .t (Ent.aggU (l:=rTx (Go.Gm.nth l1 (IntKind.wrap .i64 ((ka:Int)+(i:Int))).toNat)) rfl rfl)) (by kernel_rfl)) r2 r1 qZ)))))))))))))))))))))))) (by kernel_rfl) (by rw [hB];kernel_rfl) ?_
  clear hS;intro a w F hS
  obtain ⟨F,hS⟩:=hS.nm [37,36,35,34,33,32,31,30,29,28,27,26,25,24,23,22,21,20,19,18,17,16,13,12,11,10,3,2,1,0] [1,0] rfl rfl
  try dsimp only [List.map,stCells,xL,xM,Nat.reduceAdd,xD,xE,xT,xU,xC,xN,zCF,ldSF,rTx] at hS
  try simp only [Int.toNat_natCast] at hS
  rw [hwa,hwb] at hS
  simp only [Int.toNat_natCast] at hS
  obtain ⟨l2,hl2⟩:∃ z,z=swpB l ka kb (i+1):=⟨_,rfl⟩
  rw [show (l1.set (ka+i) (Go.Gm.nth l1 (kb+i))).set (kb+i) (Go.Gm.nth l1 (ka+i))=l2 from by rw [hl2,← swpB_step (n:=kn) hil h1 h2,← hl1];rfl] at hS
  refine block_n (then_n ?_)
  refine region_z hS (qM rfl rfl (qf (o_add .t qi) r1 qz (qN rfl rfl qZ))) hB [37,36,35,34,33,32,31,30,29,28,27,26,25,24,23,22,21,20,19,18,17,16,15,14,13,12,11,10,3,2,1,0] [1,0] rfl rfl ?_
  clear hS;intro a w F hS
  refine then_n ?_
  replace hS:=hS.ent (i:=10) (s':=.pv (.int .i64 ((i+1:Nat):Int))) rfl (.int (wrap_succ (by omega)))
  obtain ⟨F,hS⟩:=hS.nm [3,2,1,0,10] [0,1] rfl rfl
  exact ⟨((i+1),(l2)),F,⟨by omega,hl2⟩,hS,by omega⟩
 have hg:swpB l ka kb kn=l1:=by rw [hl1,show i=kn by simp at hc0;omega]
 refine wp_exit (then_x (then_x (block_x ?_)))
 have hS:=hS.turn 1 rfl (r':=RS.hp (rowH 34 3 rTx (swpB l ka kb kn) v)) (fun _ _ _ _ h=>by rw [hg];exact h)
 refine ret_G1 hG hS rfl .nil .none rfl
theorem insT (v : Value) (l : List TxD) (ka kb : Nat) (hll : l.length ≤ 1000000) (h1 : ka ≤ kb) (h2 : kb ≤ l.length) (hu : Unl TxD.id l) (f : FuncId) (fn : Func) (cps : List PV) (hf : Tryz.prog.funcs[f]? = some fn) (hbd : fn.body.isSome = true) (hnn : (fn.name == "runtime.NumGoroutine") = false) (hw : ∀ x y : TxD, FnP Tryz.prog f (.agg (rTx x) :: .agg (rTx y) :: cps) (.int .i64 (cmpZ (TxD.id x) (TxD.id y)))) : FnG Tryz.prog 172 1 [.is v, .int .i64 ka, .int .i64 kb, .clos f cps] [rowH 34 3 rTx l v] (.tup []) (fun _ => [rowH 34 3 rTx (sortSeg TxD.id l ka kb) v]) := by
 refine FnG.mk Tryz.func172 rfl Tryz.ntmps172 rfl (by kernel_rfl) ?_
 intro B F0 a w F hB hG hS
 replace hS:=hS.turn 1 rfl (r':=.ob (.val v) (rowH 34 3 rTx l)) (fun _ _ _ _ h=>h)
 refine wp_seq ?_
 refine region_z hS (qM rfl rfl (qf (o_add .t qi) r1 qz (qN rfl rfl qZ))) hB [8,3,2,1,0] [1,0] rfl rfl ?_
 clear hS;intro a w F hS
 refine then_n (wp_block ?_)
 have hc0:ka<ka+1∧(ka+1≤kb∧l=sortSeg TxD.id l ka (ka+1)∨kb≤ka∧l=l):=⟨by omega,by rcases Nat.lt_or_ge ka kb with h | h;exact .inl ⟨h,(sortSeg_one l (by omega)).symm⟩;exact .inr ⟨h,rfl⟩⟩
 replace hS:=hS.ent (i:=8) (s':=.pv (.int .i64 ((ka+1:Nat):Int))) rfl (.int (wrap_succ (by omega)))
 refine loop_keep (σ:=Nat×List TxD) [0,1,2,3] [0] (fun s=>[(8,.pv (.int .i64 (s.1:Int)))]) (fun s=>[(1,.ob (.val v) (rowH 34 3 rTx s.2))]) (fun s=>ka<s.1∧(s.1≤kb∧s.2=sortSeg TxD.id l ka s.1∨kb≤ka∧s.2=l)) (fun s=>kb - s.1) ((ka+1),(l)) hS ⟨rfl,rfl,rfl,rfl,rfl,trivial⟩ ⟨rfl,rfl,trivial⟩ hc0 ?_
 clear hS;intro s a w F hC hS
 obtain ⟨i,l1⟩:=s
 try dsimp only at hC
 obtain ⟨F,hS⟩:=hS.nm [8,3,2,1,0] [1,0] rfl rfl
 try dsimp only at hS
 obtain ⟨hai,hq⟩:=hC
 refine wp_seq (wp_seq ?_)
 refine region_z hS (qM rfl rfl (qM rfl rfl (qf (o_lss .t .t) r2 qz qZ))) hB [14,13,12,8,3,2,1,0] [1,0] rfl rfl ?_
 clear hS;intro a w F hS
 refine then_n ?_
 refine cond_b hS rfl (fun hc0=>?_) (fun hc0=>?_)
 ·skip
  have hib:i<kb:=by simp at hc0;omega
  have hl1:l1=sortSeg TxD.id l ka i:=by rcases hq with hq | hq;exact hq.2;omega
  have hn1:l1.length=l.length:=by rw [hl1];exact sortSeg_len (by omega)
  refine wp_skip (then_n (wp_seq (wp_block (wp_seq ?_))))
  refine region_z hS (qM rfl rfl (qN rfl rfl qZ)) hB [17,14,13,12,9,8,3,2,1,0] [1,0] rfl rfl ?_
  clear hS;intro a w F hS
  refine then_n (wp_block ?_)
  have hc1:ka≤i∧i≤i∧l1=mvDn l1 i i ∧ ∀ q,i≤q→q<i→TxD.id (Go.Gm.nth l1 i)<TxD.id (Go.Gm.nth l1 q):=⟨by omega,Nat.le_refl _,(mvDn_self (by omega)).symm,fun q h1 h2=>by omega⟩
  refine loop_keep (σ:=Nat×List TxD) [0,1,2,3,8,12,13,14,17] [0] (fun s=>[(9,.pv (.int .i64 (s.1:Int)))]) (fun s=>[(1,.ob (.val v) (rowH 34 3 rTx s.2))]) (fun s=>ka≤s.1∧s.1≤i∧s.2=mvDn l1 s.1 i ∧ ∀ q,s.1≤q→q<i→TxD.id (Go.Gm.nth l1 i)<TxD.id (Go.Gm.nth l1 q)) (fun s=>s.1) ((i),(l1)) hS ⟨rfl,rfl,rfl,rfl,rfl,rfl,rfl,rfl,rfl,rfl,trivial⟩ ⟨rfl,rfl,trivial⟩ hc1 ?_
  clear hS;intro s a w F hC hS
  obtain ⟨j,l2⟩:=s
  try dsimp only at hC
  obtain ⟨F,hS⟩:=hS.nm [17,14,13,12,9,8,3,2,1,0] [1,0] rfl rfl
  try dsimp only at hS
  obtain ⟨haj,hji,hl2,hgt⟩:=hC
  have hn2:l2.length=l.length:=by rw [hl2,mvDn_len hji (by omega)];exact hn1
  have hx0:Go.Gm.nth l2 j=Go.Gm.nth l1 i:=by rw [hl2,nth_mvDn hji (by omega),if_pos rfl]
  have hx1:ka<j→Go.Gm.nth l2 (j - 1)=Go.Gm.nth l1 (j - 1):=fun h=>by rw [hl2,nth_mvDn hji (by omega),if_neg (by omega),if_neg (by omega)]
  have hwj:ka<j→IntKind.wrap .i64 ((j:Int) - 1)=((j - 1:Nat):Int):=fun h=>by rw [wrap_i64 (by omega)];omega
  refine wp_seq (wp_seq ?_)
  refine region_any (by kernel_rfl) hS (by kernel_rfl) (qM rfl rfl (qM rfl rfl (qf (o_gtr .t .t) r2 qz (qM rfl rfl (qm rfl rfl rfl rfl (qm rfl rfl rfl rfl (qm rfl rfl rfl rfl (qk rfl (fun h=>o_indexAddr_row (sz:=3) 1 (.mk Tryz.underlying27 (by kernel_rfl)) (.w h .is) (.w h) (by omega) (by omega) (by rfl)) r3 r1 (qk rfl (fun h=>o_load_row0 (ag:=true) (sz':=3) (sz:=3) 1 (.w h) (by intro x;rfl) (by omega) (by kernel_rfl) (by kernel_rfl) (by kernel_rfl)) r2 r1 (qm rfl rfl rfl rfl (qm rfl rfl rfl rfl (qk rfl (fun h=>o_sub (.w h) qi) r2 qz (qk rfl (fun h=>o_indexAddr_row (sz:=3) 1 (.mk Tryz.underlying27 (by kernel_rfl)) (.w h .is) (.w h) (by have h9:=of_decide_eq_true h;rw [hwj (by omega)];omega) (by have h9:=of_decide_eq_true h;rw [hwj (by omega)];omega) (by rfl)) r3 r1 (qk rfl (fun h=>o_load_row0 (ag:=true) (sz':=3) (sz:=3) 1 (.w h) (by intro x;rfl) (by have h9:=of_decide_eq_true h;rw [hwj (by omega)];omega) (by kernel_rfl) (by kernel_rfl) (by kernel_rfl)) r2 r1 (qk rfl (fun h=>o_callClosP (avs:=[.agg (rTx (Go.Gm.nth l2 ((j:Int)).toNat)),.agg (rTx (Go.Gm.nth l2 (IntKind.wrap .i64 ((j:Int) - 1)).toNat))]) (.w h) (hw (Go.Gm.nth l2 ((j:Int)).toNat) (Go.Gm.nth l2 (IntKind.wrap .i64 ((j:Int) - 1)).toNat)) hf hbd hnn (Args.two (.pagg (.w h)) (.pagg (.w h)))) r4 qz (qk rfl (fun h=>o_lss (.w h) qi) r2 qz (qf (o_and2 .t .t) r2 qz qZ))))))))))))))))) (by kernel_rfl) (by rw [hB];kernel_rfl) ?_
  clear hS;intro a w F hS
  obtain ⟨F,hS⟩:=hS.nm [34,33,32,31,30,29,28,27,26,25,24,23,22,21,20,19,18,17,14,13,12,9,8,3,2,1,0] [1,0] rfl rfl
  try dsimp only [List.map,xD,xE,xT,xU,ldSF,rTx] at hS
  try simp only [Int.toNat_natCast] at hS
  refine then_n ?_
  refine cond_b hS rfl (fun hc1=>?_) (fun hc1=>?_)
  ·skip
   obtain ⟨haj2,h9⟩:ka<j∧cmpZ (TxD.id (Go.Gm.nth l2 j)) (TxD.id (Go.Gm.nth l2 (IntKind.wrap .i64 ((j:Int) - 1)).toNat))<0:=by simpa using hc1
   rw [hwj haj2,Int.toNat_natCast,hx0,hx1 haj2] at h9
   have h9:=cmpZ_lt.1 h9
   have hgt3:∀ q,j - 1≤q→q<i→TxD.id (Go.Gm.nth l1 i)<TxD.id (Go.Gm.nth l1 q):=fun q h1 h2=>by rcases Nat.lt_or_ge q j with h | h;rw [show q=j - 1 by omega];exact h9;exact hgt q h h2
   refine wp_skip (then_n (wp_seq (wp_block ?_)))
   refine region_any (by kernel_rfl) hS (by kernel_rfl) (qM rfl rfl (qM rfl rfl (qM rfl rfl (qM rfl rfl (qf (o_sub .t qi) r1 qz (qM rfl rfl (qM rfl rfl (qf (o_sub .t qi) r1 qz (qf (o_indexAddr_row (sz:=3) 1 (.mk Tryz.underlying27 (by kernel_rfl)) .is .t (by rw [hwj haj2];omega) (by rw [hwj haj2];omega) (by rfl)) r2 r1 (qf (o_load_row0 (ag:=true) (sz':=3) (sz:=3) 1 .t (by intro x;rfl) (by rw [hwj haj2];omega) (by kernel_rfl) (by kernel_rfl) (by kernel_rfl)) r1 r1 (qM rfl rfl (qM rfl rfl (qf (o_indexAddr_row (sz:=3) 1 (.mk Tryz.underlying27 (by kernel_rfl)) .is .t (by omega) (by omega) (by rfl)) r2 r1 (qf (o_load_row0 (ag:=true) (sz':=3) (sz:=3) 1 .t (by intro x;rfl) (by omega) (by kernel_rfl) (by kernel_rfl) (by kernel_rfl)) r1 r1 (qf (o_indexAddr_row (sz:=3) 1 (.mk Tryz.underlying27 (by kernel_rfl)) .is .t (by omega) (by omega) (by rfl)) r2 r1 (qf (o_store_row (sz:=3) 1 .t (by intro x;rfl) (by omega) (.conv .t (Ent.aggU (l:=rTx (Go.Gm.nth l2 (IntKind.wrap .i64 ((j:Int) - 1)).toNat)) rfl rfl)) (by kernel_rfl)) r2 r1 (qf (o_indexAddr_row (sz:=3) 1 (.mk Tryz.underlying27 (by kernel_rfl)) .is .t (by rw [hwj haj2];omega) (by rw [List.length_set,hwj haj2];omega) (by rfl)) r2 r1 (qf (o_store_row (sz:=3) 1 .t (by intro x;rfl) (by rw [List.length_set,hwj haj2];omega) (.conv .t (Ent.aggU (l:=rTx (Go.Gm.nth l2 ((j:Int)).toNat)) rfl rfl)) (by kernel_rfl)) r2 r1 qZ)))))))))))))))))) (by kernel_rfl) (by rw [hB];kernel_rfl) ?_
   clear hS;intro a w F hS
   obtain ⟨F,hS⟩:=hS.nm [52,51,50,49,48,47,46,45,44,43,42,41,40,39,38,37,34,33,32,31,30,29,28,27,26,25,24,23,22,21,20,19,18,17,14,13,12,9,8,3,2,1,0] [1,0] rfl rfl
   try dsimp only [List.map,stCells,xL,xM,Nat.reduceAdd,xD,xE,xT,xU,xC,xN,zCF,ldSF,rTx] at hS
   try simp only [Int.toNat_natCast] at hS
   rw [hwj haj2] at hS
   simp only [Int.toNat_natCast] at hS
   obtain ⟨l3,hl3⟩:∃ z,z=mvDn l1 (j - 1) i:=⟨_,rfl⟩
   rw [show (l2.set j (Go.Gm.nth l2 (j - 1))).set (j - 1) (Go.Gm.nth l2 j)=l3 from by rw [hl3,← mvDn_step (by omega) hji (by omega),← hl2];rfl] at hS
   refine block_n (then_n ?_)
   refine region_z hS (qM rfl rfl (qf (o_sub .t qi) r1 qz (qN rfl rfl qZ))) hB [52,51,50,49,48,47,46,45,44,43,42,41,40,39,38,37,36,35,34,33,32,31,30,29,28,27,26,25,24,23,22,21,20,19,18,17,14,13,12,9,8,3,2,1,0] [1,0] rfl rfl ?_
   clear hS;intro a w F hS
   refine then_n ?_
   replace hS:=hS.ent (i:=9) (s':=.pv (.int .i64 ((j - 1:Nat):Int))) rfl (.int (hwj haj2))
   obtain ⟨F,hS⟩:=hS.nm [17,14,13,12,8,3,2,1,0,9] [0,1] rfl rfl
   exact ⟨((j - 1),(l3)),F,⟨by omega,by omega,hl3,hgt3⟩,hS,by omega⟩
  have h9:¬ (ka<j∧cmpZ (TxD.id (Go.Gm.nth l2 j)) (TxD.id (Go.Gm.nth l2 (IntKind.wrap .i64 ((j:Int) - 1)).toNat))<0):=by simpa using hc1
  have hend:l2=sortSeg TxD.id l ka (i+1):=by
    rw [hl2]
    refine ins_round haj hji (by omega) (seg_unl hu _ _) hl1 ?_ hgt
    rcases Nat.lt_or_ge ka j with h | h
    · refine .inr (unl_gt (sortSeg_unl (κ:=TxD.id) (a:=ka) (b:=i) (by omega) hu |> fun z=>(by rw [hl1];exact z:Unl TxD.id l1)) (i:=i) (j:=j - 1) (by omega) (by omega) (by omega) fun h8=>h9 ⟨h,?_⟩)
      rw [hwj h,Int.toNat_natCast,hx0,hx1 h]
      exact cmpZ_lt.2 h8
    · exact .inl (by omega)
  refine wp_exit (then_x (then_x (block_x (block_n (then_n ?_)))))
  refine region_z hS (qM rfl rfl (qf (o_add .t qi) r1 qz (qN rfl rfl qZ))) hB [34,33,32,31,30,29,28,27,26,25,24,23,22,21,20,19,18,17,16,15,14,13,12,9,8,3,2,1,0] [1,0] rfl rfl ?_
  clear hS;intro a w F hS
  refine then_n ?_
  replace hS:=hS.ent (i:=8) (s':=.pv (.int .i64 ((i+1:Nat):Int))) rfl (.int (wrap_succ (by omega)))
  obtain ⟨F,hS⟩:=hS.nm [3,2,1,0,8] [0,1] rfl rfl
  exact ⟨((i+1),(l2)),F,⟨by omega,.inl ⟨by omega,hend⟩⟩,hS,by omega⟩
 have hg:sortSeg TxD.id l ka kb=l1:=by
   rcases hq with hq | hq
   · rw [hq.2,show i=kb by simp at hc0;omega]
   · rw [hq.2,show kb=ka by omega];exact sortSeg_rise (Nat.le_refl _) (by rw [seg_nil];exact List.Pairwise.nil)
 refine wp_exit (then_x (then_x (block_x ?_)))
 have hS:=hS.turn 1 rfl (r':=RS.hp (rowH 34 3 rTx (sortSeg TxD.id l ka kb) v)) (fun _ _ _ _ h=>by rw [hg];exact h)
 refine ret_G1 hG hS rfl .nil .none rfl
theorem rotT (v:Value) (l:List TxD) (ka km kb:Nat) (hll:l.length≤1000000) (h1:ka<km) (h2:km<kb) (h3:kb≤l.length) (f:FuncId) (cps:List PV):FnG Tryz.prog 184 1 [.is v,.int .i64 ka,.int .i64 km,.int .i64 kb,.clos f cps] [rowH 34 3 rTx l v] (.tup []) (fun _=>[rowH 34 3 rTx (rotSeg l ka km kb) v]):=by
 refine FnG.mk Tryz.func184 rfl Tryz.ntmps184 rfl (by kernel_rfl) ?_
 intro B F0 a w F hB hG hS
 replace hS:=hS.turn 1 rfl (r':=.ob (.val v) (rowH 34 3 rTx l)) (fun _ _ _ _ h=>h)
 refine wp_seq ?_
 refine region_z hS (qM rfl rfl (qM rfl rfl (qf (o_sub .t .t) r2 qz (qN rfl rfl qZ)))) hB [10,4,3,2,0] [1,0] rfl rfl ?_
 clear hS;intro a w F hS
 refine then_n (wp_seq ?_)
 refine region_z hS (qM rfl rfl (qM rfl rfl (qf (o_sub .t .t) r2 qz (qN rfl rfl qZ)))) hB [11,10,4,2,0] [1,0] rfl rfl ?_
 clear hS;intro a w F hS
 refine then_n (wp_seq (wp_block ?_))
 have hc0:0<km - ka∧0<kb - km∧ka+(km - ka)≤km∧km+(kb - km)≤kb∧l.length=l.length∧rotSeg l (km - (km - ka)) km (km+(kb - km))=rotSeg l ka km kb:=⟨by omega,by omega,by omega,by omega,rfl,by rw [show km - (km - ka)=ka by omega,show km+(kb - km)=kb by omega]⟩
 replace hS:=hS.ent (i:=10) (s':=.pv (.int .i64 ((km - ka:Nat):Int))) rfl (.int (by rw [wrap_i64 (by omega)];omega))
 replace hS:=hS.ent (i:=11) (s':=.pv (.int .i64 ((kb - km:Nat):Int))) rfl (.int (by rw [wrap_i64 (by omega)];omega))
 refine loop_keep (σ:=Nat×Nat×List TxD) [0,2,4] [0] (fun s=>[(10,.pv (.int .i64 (s.1:Int))),(11,.pv (.int .i64 (s.2.1:Int)))]) (fun s=>[(1,.ob (.val v) (rowH 34 3 rTx s.2.2))]) (fun s=>0<s.1∧0<s.2.1∧ka+s.1≤km∧km+s.2.1≤kb∧s.2.2.length=l.length∧rotSeg s.2.2 (km - s.1) km (km+s.2.1)=rotSeg l ka km kb) (fun s=>s.1+s.2.1) ((km - ka),(kb - km),(l)) hS ⟨rfl,rfl,rfl,rfl,rfl,trivial⟩ ⟨rfl,rfl,trivial⟩ hc0 ?_
 clear hS;intro s a w F hC hS
 obtain ⟨i,j,l1⟩:=s
 try dsimp only at hC
 obtain ⟨F,hS⟩:=hS.nm [11,10,4,2,0] [1,0] rfl rfl
 try dsimp only at hS
 obtain ⟨hi0,hj0,hia,hjb,hn1,hq⟩:=hC
 have hwm:IntKind.wrap .i64 ((km:Int) - (i:Int))=((km - i:Nat):Int):=by rw [wrap_i64 (by omega)];omega
 have hwn:i≤km+j→IntKind.wrap .i64 (IntKind.wrap .i64 ((km:Int)+(j:Int)) - (i:Int))=((km+j - i:Nat):Int):=fun h=>by rw [wrap_i64 (x:=(km:Int)+(j:Int)) (by omega),wrap_i64 (by omega)];omega
 refine wp_seq (wp_seq ?_)
 refine region_z hS (qM rfl rfl (qM rfl rfl (qf (o_neq .t .t) r2 qz qZ))) hB [20,19,18,11,10,4,2,0] [1,0] rfl rfl ?_
 clear hS;intro a w F hS
 refine then_n ?_
 refine cond_b hS rfl (fun hc0=>?_) (fun hc0=>?_)
 ·skip
  have hij:i≠j:=by simp at hc0;omega
  refine wp_skip (then_n (wp_block (wp_seq ?_)))
  refine region_z hS (qM rfl rfl (qM rfl rfl (qf (o_gtr .t .t) r2 qz qZ))) hB [23,22,21,20,19,18,11,10,4,2,0] [1,0] rfl rfl ?_
  clear hS;intro a w F hS
  refine then_n ?_
  refine cond_b hS rfl (fun hc1=>?_) (fun hc1=>?_)
  ·skip
   have hlt:j<i:=by simp at hc1;omega
   obtain ⟨i2,i2e⟩:∃ z,z=i - j:=⟨_,rfl⟩
   obtain ⟨j2,j2e⟩:∃ z,z=j:=⟨_,rfl⟩
   obtain ⟨l2,l2e⟩:∃ z,z=swpB l1 (km - i) km j:=⟨_,rfl⟩
   have hi2:IntKind.wrap .i64 ((i:Int) - (j:Int))=(i2:Int):=by rw [wrap_i64 (by omega)];omega
   have hj2:(j:Int)=(j2:Int):=by rw [j2e]
   have hmu:i2+j2<i+j:=by omega
   have hC2:0<i2∧0<j2∧ka+i2≤km∧km+j2≤kb∧l2.length=l.length∧rotSeg l2 (km - i2) km (km+j2)=rotSeg l ka km kb:=⟨by omega,by omega,by omega,by omega,by rw [l2e,swpB_len (by omega) (by omega),hn1],by rw [← hq,← rot_gt' (l:=l1) (s:=km - i) (m:=km) (e:=km+j) (j:=j) (by omega) rfl (by omega),l2e,j2e,show km - i2=km - i+j by omega]⟩
   refine wp_seq ?_
   refine region_z hS (qM rfl rfl (qM rfl rfl (qM rfl rfl (qf (o_sub .t .t) r2 qz (qM rfl rfl (qM rfl rfl (qM rfl rfl (qf (o_callRow 1 (swpT v l1 (km - i) km j (by omega) (by omega) (by omega) f cps) Tryz.func187 rfl (by kernel_rfl) (Args.five .t (.conv .t (.int hwm)) .t .t .t)) r5 r1 qZ)))))))) hB [30,29,28,27,26,25,24,23,22,21,20,19,18,11,10,4,2,0] [1,0] rfl rfl ?_
   clear hS;intro a w F hS
   rw [← l2e] at hS
   refine then_n ?_
   refine region_z hS (qM rfl rfl (qM rfl rfl (qf (o_sub .t .t) r2 qz (qN rfl rfl qZ)))) hB [34,33,32,30,29,28,27,26,25,24,23,22,21,20,19,18,11,10,4,2,0] [1,0] rfl rfl ?_
   clear hS;intro a w F hS
   refine block_n (then_n ?_)
   replace hS:=hS.ent (i:=10) (s':=.pv (.int .i64 (i2:Int))) rfl (.int hi2)
   replace hS:=hS.ent (i:=11) (s':=.pv (.int .i64 (j2:Int))) rfl (.int hj2)
   obtain ⟨F,hS⟩:=hS.nm [4,2,0,11,10] [0,1] rfl rfl
   exact ⟨((i2),(j2),(l2)),F,hC2,hS,hmu⟩
  have hlt:i<j:=by simp at hc1;omega
  obtain ⟨i2,i2e⟩:∃ z,z=i:=⟨_,rfl⟩
  obtain ⟨j2,j2e⟩:∃ z,z=j - i:=⟨_,rfl⟩
  obtain ⟨l2,l2e⟩:∃ z,z=swpB l1 (km - i) (km+j - i) i:=⟨_,rfl⟩
  have hi2:(i:Int)=(i2:Int):=by rw [i2e]
  have hj2:IntKind.wrap .i64 ((j:Int) - (i:Int))=(j2:Int):=by rw [wrap_i64 (by omega)];omega
  have hmu:i2+j2<i+j:=by omega
  have hC2:0<i2∧0<j2∧ka+i2≤km∧km+j2≤kb∧l2.length=l.length∧rotSeg l2 (km - i2) km (km+j2)=rotSeg l ka km kb:=⟨by omega,by omega,by omega,by omega,by rw [l2e,swpB_len (by omega) (by omega),hn1],by rw [← hq,← rot_lt' (l:=l1) (s:=km - i) (m:=km) (e:=km+j) (i:=i) (by omega) (by omega) (by omega),l2e,i2e,show km+j2=km+j - i by omega]⟩
  refine wp_seq ?_
  refine region_z hS (qM rfl rfl (qM rfl rfl (qM rfl rfl (qf (o_sub .t .t) r2 qz (qM rfl rfl (qM rfl rfl (qf (o_add .t .t) r2 qz (qM rfl rfl (qf (o_sub .t .t) r2 qz (qM rfl rfl (qM rfl rfl (qf (o_callRow 1 (swpT v l1 (km - i) (km+j - i) i (by omega) (by omega) (by omega) f cps) Tryz.func187 rfl (by kernel_rfl) (Args.five .t (.conv .t (.int hwm)) (.conv .t (.int (hwn (by omega)))) .t .t)) r5 r1 qZ)))))))))))) hB [45,44,43,42,41,40,39,38,37,36,35,23,22,21,20,19,18,11,10,4,2,0] [1,0] rfl rfl ?_
  clear hS;intro a w F hS
  rw [← l2e] at hS
  refine then_n ?_
  refine region_z hS (qM rfl rfl (qM rfl rfl (qf (o_sub .t .t) r2 qz (qN rfl rfl qZ)))) hB [49,48,47,45,44,43,42,41,40,39,38,37,36,35,23,22,21,20,19,18,11,10,4,2,0] [1,0] rfl rfl ?_
  clear hS;intro a w F hS
  refine block_n (then_n ?_)
  replace hS:=hS.ent (i:=10) (s':=.pv (.int .i64 (i2:Int))) rfl (.int hi2)
  replace hS:=hS.ent (i:=11) (s':=.pv (.int .i64 (j2:Int))) rfl (.int hj2)
  obtain ⟨F,hS⟩:=hS.nm [4,2,0,11,10] [0,1] rfl rfl
  exact ⟨((i2),(j2),(l2)),F,hC2,hS,hmu⟩
 have hij:i=j:=by simp at hc0;omega
 have hg:rotSeg l ka km kb=swpB l1 (km - i) km i:=by rw [← hq,← hij];exact (rot_eq' (by omega) rfl (by omega)).symm
 refine wp_exit (then_x (then_x (block_x (then_n ?_))))
 refine region_z hS (qM rfl rfl (qM rfl rfl (qM rfl rfl (qf (o_sub .t .t) r2 qz (qM rfl rfl (qM rfl rfl (qM rfl rfl (qf (o_callRow 1 (swpT v l1 (km - i) km i (by omega) (by omega) (by omega) f cps) Tryz.func187 rfl (by kernel_rfl) (Args.five .t (.conv .t (.int hwm)) .t .t .t)) r5 r1 qZ)))))))) hB [] [1,0] rfl rfl ?_
 clear hS;intro a w F hS
 have hS:=hS.turn 1 rfl (r':=RS.hp (rowH 34 3 rTx (rotSeg l ka km kb) v)) (fun _ _ _ _ h=>by rw [hg];exact h)
 refine ret_G1 hG hS rfl .nil .none rfl
end Go.Proofs.YtcfgcpcakdknkaaGreat
