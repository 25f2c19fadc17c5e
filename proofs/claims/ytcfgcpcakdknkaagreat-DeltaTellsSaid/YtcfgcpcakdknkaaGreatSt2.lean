/- The stable sort of the library. No condition beyond those that each theorem says. -/
import Derived.Test.YtcfgcpcakdknkaaGreatSt1
namespace Go.Proofs.YtcfgcpcakdknkaaGreat
open Go Go.Gm
set_option linter.unusedVariables false
set_option linter.unusedSimpArgs false
set_option maxHeartbeats 4000000
set_option maxRecDepth 8000
theorem symST (v : Value) (l : List TxD) (ka km kb : Nat) (hll : l.length ≤ 1000000) (h1 : ka < km) (h2 : km < kb) (h3 : kb ≤ l.length) (hu : Unl TxD.id l) (hx : RiseK TxD.id (seg l ka km)) (hy : RiseK TxD.id (seg l km kb)) (f : FuncId) (fn : Func) (cps : List PV) (hf : Tryz.prog.funcs[f]? = some fn) (hbd : fn.body.isSome = true) (hnn : (fn.name == "runtime.NumGoroutine") = false) (hw : ∀ x y : TxD, FnP Tryz.prog f (.agg (rTx x) :: .agg (rTx y) :: cps) (.int .i64 (cmpZ (TxD.id x) (TxD.id y)))) (n : Nat) (ih : ∀ (l : List TxD) (ka km kb : Nat), kb - ka < n → l.length ≤ 1000000 → ka < km → km < kb → kb ≤ l.length → Unl TxD.id l → RiseK TxD.id (seg l ka km) → RiseK TxD.id (seg l km kb) → FnG Tryz.prog 173 1 [.is v, .int .i64 (ka : Nat), .int .i64 (km : Nat), .int .i64 (kb : Nat), .clos f cps] [rowH 34 3 rTx l v] (.tup []) (fun _ => [rowH 34 3 rTx (sortSeg TxD.id l ka kb) v])) (hn : kb - ka < n + 1) : FnG Tryz.prog 173 1 [.is v, .int .i64 ka, .int .i64 km, .int .i64 kb, .clos f cps] [rowH 34 3 rTx l v] (.tup []) (fun _ => [rowH 34 3 rTx (sortSeg TxD.id l ka kb) v]) := by
 refine FnG.mk Tryz.func173 rfl Tryz.ntmps173 rfl (by kernel_rfl) ?_
 intro B F0 a w F hB hG hS
 replace hS:=hS.turn 1 rfl (r':=.ob (.val v) (rowH 34 3 rTx l)) (fun _ _ _ _ h=>h)
 obtain ⟨hx9,hy9⟩:(∀ i j,ka≤i→i<j→j<km→TxD.id (Go.Gm.nth l i)<TxD.id (Go.Gm.nth l j)) ∧ ∀ i j,km≤i→i<j→j<kb→TxD.id (Go.Gm.nth l i)<TxD.id (Go.Gm.nth l j):=⟨(seg_idx (κ:=TxD.id) (by omega)).1 hx,(seg_idx (κ:=TxD.id) (by omega)).1 hy⟩
 refine wp_seq (wp_seq ?_)
 refine region_z hS (qM rfl rfl (qM rfl rfl (qf (o_sub .t .t) r2 qz (qf (o_eql .t qi) r1 qz qZ)))) hB [28,4,3,2,1,0] [1,0] rfl rfl ?_
 clear hS;intro a w F hS
 refine then_n ?_
 refine cond_b hS rfl (fun hc0=>?_) (fun hc0=>?_)
 ·skip
  have hm1:km=ka+1:=by have h9:=hc0;rw [wrap_i64 (by omega)] at h9;simp at h9;omega
  refine wp_seq ?_
  refine region_z hS (qM rfl rfl (qN rfl rfl qZ)) hB [10,4,3,2,1,0] [1,0] rfl rfl ?_
  clear hS;intro a w F hS
  refine then_n (wp_seq ?_)
  refine region_z hS (qM rfl rfl (qN rfl rfl qZ)) hB [11,10,4,3,2,1,0] [1,0] rfl rfl ?_
  clear hS;intro a w F hS
  refine then_n (wp_seq (wp_block ?_))
  have hc0:km≤km∧km≤kb∧kb≤kb∧(∀ q,km≤q→q<km→TxD.id (Go.Gm.nth l q)<TxD.id (Go.Gm.nth l ka)) ∧ ∀ q,kb≤q→q<kb→TxD.id (Go.Gm.nth l ka)<TxD.id (Go.Gm.nth l q):=⟨Nat.le_refl _,by omega,Nat.le_refl _,fun q h1 h2=>by omega,fun q h1 h2=>by omega⟩
  refine loop_keep (σ:=Nat×Nat) [0,1,2,3,4] [0,1] (fun s=>[(10,.pv (.int .i64 (s.1:Int))),(11,.pv (.int .i64 (s.2:Int)))]) (fun s=>[]) (fun s=>km≤s.1∧s.1≤s.2∧s.2≤kb∧(∀ q,km≤q→q<s.1→TxD.id (Go.Gm.nth l q)<TxD.id (Go.Gm.nth l ka)) ∧ ∀ q,s.2≤q→q<kb→TxD.id (Go.Gm.nth l ka)<TxD.id (Go.Gm.nth l q)) (fun s=>s.2 - s.1) ((km),(kb)) hS ⟨rfl,rfl,rfl,rfl,rfl,rfl,rfl,trivial⟩ ⟨rfl,rfl,trivial⟩ hc0 ?_
  clear hS;intro s a w F hC hS
  obtain ⟨i,j⟩:=s
  try dsimp only at hC
  obtain ⟨F,hS⟩:=hS.nm [11,10,4,3,2,1,0] [1,0] rfl rfl
  try dsimp only at hS
  obtain ⟨hki,hij,hjk,hlo,hhi⟩:=hC
  refine wp_seq (wp_seq ?_)
  refine region_z hS (qM rfl rfl (qM rfl rfl (qf (o_lss .t .t) r2 qz qZ))) hB [33,32,31,11,10,4,3,2,1,0] [1,0] rfl rfl ?_
  clear hS;intro a w F hS
  refine then_n ?_
  refine cond_b hS rfl (fun hc1=>?_) (fun hc1=>?_)
  ·skip
   have hlt:i<j:=by simp at hc1;omega
   refine wp_skip (then_n (wp_block (wp_seq ?_)))
   refine region_z hS (qM rfl rfl (qM rfl rfl (qf (o_add .t .t) r2 qz (qf (o_conv Tryz.underlying147 (by kernel_rfl) .t) r1 qz (qf (o_shr .t qi (by decide)) r1 qz (qf (o_conv Tryz.underlying3 (by kernel_rfl) .t) r1 qz (qN rfl rfl qZ))))))) hB [39,38,37,36,35,34,33,32,31,12,11,10,4,3,2,1,0] [1,0] rfl rfl ?_
   clear hS;intro a w F hS
   obtain ⟨m,hmm⟩:∃ m:Nat,m=(i+j) / 2:=⟨_,rfl⟩
   replace hS:=hS.ent (i:=12) (s':=.pv (.int .i64 (m:Int))) rfl (.int (by rw [hmm];exact mid_shr (by omega)))
   obtain ⟨F,hS⟩:=hS.nm [39,38,37,36,35,34,33,32,31,12,11,10,4,3,2,1,0] [1,0] rfl rfl
   refine then_n (wp_seq ?_)
   refine region_any (by kernel_rfl) hS (by kernel_rfl) (qM rfl rfl (qM rfl rfl (qM rfl rfl (qf (o_indexAddr_row (sz:=3) 1 (.mk Tryz.underlying27 (by kernel_rfl)) .is .t (by omega) (by omega) (by rfl)) r2 r1 (qf (o_load_row0 (ag:=true) (sz':=3) (sz:=3) 1 .t (by intro x;rfl) (by omega) (by kernel_rfl) (by kernel_rfl) (by kernel_rfl)) r1 r1 (qM rfl rfl (qM rfl rfl (qf (o_indexAddr_row (sz:=3) 1 (.mk Tryz.underlying27 (by kernel_rfl)) .is .t (by omega) (by omega) (by rfl)) r2 r1 (qf (o_load_row0 (ag:=true) (sz':=3) (sz:=3) 1 .t (by intro x;rfl) (by omega) (by kernel_rfl) (by kernel_rfl) (by kernel_rfl)) r1 r1 (qf (o_callClosP (avs:=[.agg (rTx (Go.Gm.nth l ((m:Int)).toNat)),.agg (rTx (Go.Gm.nth l ((ka:Int)).toNat))]) .t (hw (Go.Gm.nth l ((m:Int)).toNat) (Go.Gm.nth l ((ka:Int)).toNat)) hf hbd hnn (Args.two (.pagg .t) (.pagg .t))) r3 qz (qf (o_lss .t qi) r1 qz qZ))))))))))) (by kernel_rfl) (by rw [hB];kernel_rfl) ?_
   clear hS;intro a w F hS
   obtain ⟨F,hS⟩:=hS.nm [50,49,48,47,46,45,44,43,42,41,40,39,38,37,36,35,34,33,32,31,12,11,10,4,3,2,1,0] [1,0] rfl rfl
   try dsimp only [List.map,xD,xE,xT,xU,ldSF,rTx] at hS
   try simp only [Int.toNat_natCast] at hS
   refine then_n ?_
   refine cond_b hS rfl (fun hc2=>?_) (fun hc2=>?_)
   ·skip
    have h9:cmpZ (TxD.id (Go.Gm.nth l m)) (TxD.id (Go.Gm.nth l ka))<0:=by simpa using hc2
    have h8:=cmpZ_lt.1 h9
    obtain ⟨i2,hi2e⟩:∃ z,z=m+1:=⟨_,rfl⟩
    obtain ⟨j2,hj2e⟩:∃ z,z=j:=⟨_,rfl⟩
    have hi2:IntKind.wrap .i64 ((m:Int)+1)=(i2:Int):=by rw [hi2e];exact wrap_succ (by omega)
    have hj2:(j:Int)=(j2:Int):=by rw [hj2e]
    have hmu:j2 - i2<j - i:=by omega
    have hC2:km≤i2∧i2≤j2∧j2≤kb∧(∀ q,km≤q→q<i2→TxD.id (Go.Gm.nth l q)<TxD.id (Go.Gm.nth l ka)) ∧ ∀ q,j2≤q→q<kb→TxD.id (Go.Gm.nth l ka)<TxD.id (Go.Gm.nth l q):=⟨by omega,by omega,by omega,fun q h1 h2=>by rcases Nat.lt_or_ge q m with h | h;exact Int.lt_trans (hy9 q m h1 h (by omega)) h8;rw [show q=m by omega];exact h8,by rw [hj2e];exact hhi⟩
    refine region_z hS (qM rfl rfl (qf (o_add .t qi) r1 qz (qN rfl rfl qZ))) hB [52,51,50,49,48,47,46,45,44,43,42,41,40,39,38,37,36,35,34,33,32,31,12,11,10,4,3,2,1,0] [1,0] rfl rfl ?_
    clear hS;intro a w F hS
    refine block_n (then_n ?_)
    replace hS:=hS.ent (i:=10) (s':=.pv (.int .i64 (i2:Int))) rfl (.int hi2)
    replace hS:=hS.ent (i:=11) (s':=.pv (.int .i64 (j2:Int))) rfl (.int hj2)
    obtain ⟨F,hS⟩:=hS.nm [4,3,2,1,0,11,10] [1,0] rfl rfl
    exact ⟨((i2),(j2)),F,hC2,hS,hmu⟩
   have h9:¬ cmpZ (TxD.id (Go.Gm.nth l m)) (TxD.id (Go.Gm.nth l ka))<0:=by simpa using hc2
   have h8:=unl_gt hu (i:=m) (j:=ka) (by omega) (by omega) (by omega) (fun e=>h9 (cmpZ_lt.2 e))
   obtain ⟨i2,hi2e⟩:∃ z,z=i:=⟨_,rfl⟩
   obtain ⟨j2,hj2e⟩:∃ z,z=m:=⟨_,rfl⟩
   have hi2:(i:Int)=(i2:Int):=by rw [hi2e]
   have hj2:(m:Int)=(j2:Int):=by rw [hj2e]
   have hmu:j2 - i2<j - i:=by omega
   have hC2:km≤i2∧i2≤j2∧j2≤kb∧(∀ q,km≤q→q<i2→TxD.id (Go.Gm.nth l q)<TxD.id (Go.Gm.nth l ka)) ∧ ∀ q,j2≤q→q<kb→TxD.id (Go.Gm.nth l ka)<TxD.id (Go.Gm.nth l q):=⟨by omega,by omega,by omega,by rw [hi2e];exact hlo,fun q h1 h2=>by rcases Nat.lt_or_ge m q with h | h;exact Int.lt_trans h8 (hy9 m q (by omega) h h2);rw [show q=m by omega];exact h8⟩
   refine region_z hS (qM rfl rfl (qN rfl rfl qZ)) hB [53,50,49,48,47,46,45,44,43,42,41,40,39,38,37,36,35,34,33,32,31,12,11,10,4,3,2,1,0] [1,0] rfl rfl ?_
   clear hS;intro a w F hS
   refine block_n (then_n ?_)
   replace hS:=hS.ent (i:=10) (s':=.pv (.int .i64 (i2:Int))) rfl (.int hi2)
   replace hS:=hS.ent (i:=11) (s':=.pv (.int .i64 (j2:Int))) rfl (.int hj2)
   obtain ⟨F,hS⟩:=hS.nm [4,3,2,1,0,11,10] [1,0] rfl rfl
   exact ⟨((i2),(j2)),F,hC2,hS,hmu⟩
  have hjj:i=j:=by simp at hc1;omega
  have hg1:mvUp l ka (i - 1)=sortSeg TxD.id l ka kb:=merge_one (by omega) (by omega) (by omega) (by rw [← hm1];exact hy) (by rw [← hm1];exact hlo) (by rw [hjj];exact hhi)
  refine wp_exit (then_x (then_x (block_x (then_n (wp_seq (wp_seq ?_))))))
  refine region_z hS (qM rfl rfl (qN rfl rfl qZ)) hB [13,10,4,3,2,1,0] [1,0] rfl rfl ?_
  clear hS;intro a w F hS
  refine then_n (wp_block ?_)
  have hc1:ka≤ka∧ka+1≤i∧l=mvUp l ka ka:=⟨Nat.le_refl _,by omega,(mvUp_self (by omega)).symm⟩
  refine loop_keep (σ:=Nat×List TxD) [0,1,2,3,4,10] [0] (fun s=>[(13,.pv (.int .i64 (s.1:Int)))]) (fun s=>[(1,.ob (.val v) (rowH 34 3 rTx s.2))]) (fun s=>ka≤s.1∧s.1+1≤i∧s.2=mvUp l ka s.1) (fun s=>i - s.1) ((ka),(l)) hS ⟨rfl,rfl,rfl,rfl,rfl,rfl,rfl,trivial⟩ ⟨rfl,rfl,trivial⟩ hc1 ?_
  clear hS;intro s a w F hC hS
  obtain ⟨k,l1⟩:=s
  try dsimp only at hC
  obtain ⟨F,hS⟩:=hS.nm [13,10,4,3,2,1,0] [1,0] rfl rfl
  try dsimp only at hS
  obtain ⟨hka,hki2,hl1⟩:=hC
  have hn1:l1.length=l.length:=by rw [hl1];exact mvUp_len hka (by omega)
  have hwk:IntKind.wrap .i64 ((k:Int)+1)=((k+1:Nat):Int):=wrap_succ (by omega)
  have hwi:IntKind.wrap .i64 ((i:Int) - 1)=((i - 1:Nat):Int):=by rw [wrap_i64 (by omega)];omega
  refine wp_seq (wp_seq ?_)
  refine region_z hS (qM rfl rfl (qM rfl rfl (qf (o_sub .t qi) r1 qz (qf (o_lss .t .t) r2 qz qZ)))) hB [58,57,56,55,13,10,4,3,2,1,0] [1,0] rfl rfl ?_
  clear hS;intro a w F hS
  refine then_n ?_
  refine cond_b hS rfl (fun hc3=>?_) (fun hc3=>?_)
  ·skip
   have hlt:k+1<i:=by have h9:=hc3;rw [hwi] at h9;simp at h9;omega
   refine wp_skip (then_n (wp_seq (wp_block ?_)))
   refine region_any (by kernel_rfl) hS (by kernel_rfl) (qM rfl rfl (qM rfl rfl (qM rfl rfl (qM rfl rfl (qf (o_add .t qi) r1 qz (qM rfl rfl (qM rfl rfl (qf (o_add .t qi) r1 qz (qf (o_indexAddr_row (sz:=3) 1 (.mk Tryz.underlying27 (by kernel_rfl)) .is .t (by rw [hwk];omega) (by rw [hwk];omega) (by rfl)) r2 r1 (qf (o_load_row0 (ag:=true) (sz':=3) (sz:=3) 1 .t (by intro x;rfl) (by rw [hwk];omega) (by kernel_rfl) (by kernel_rfl) (by kernel_rfl)) r1 r1 (qM rfl rfl (qM rfl rfl (qf (o_indexAddr_row (sz:=3) 1 (.mk Tryz.underlying27 (by kernel_rfl)) .is .t (by omega) (by omega) (by rfl)) r2 r1 (qf (o_load_row0 (ag:=true) (sz':=3) (sz:=3) 1 .t (by intro x;rfl) (by omega) (by kernel_rfl) (by kernel_rfl) (by kernel_rfl)) r1 r1 (qf (o_indexAddr_row (sz:=3) 1 (.mk Tryz.underlying27 (by kernel_rfl)) .is .t (by omega) (by omega) (by rfl)) r2 r1 (qf (o_store_row (sz:=3) 1 .t (by intro x;rfl) (by omega) (.conv .t (Ent.aggU (l:=rTx (Go.Gm.nth l1 (IntKind.wrap .i64 ((k:Int)+1)).toNat)) rfl rfl)) (by kernel_rfl)) r2 r1 (qf (o_indexAddr_row (sz:=3) 1 (.mk Tryz.underlying27 (by kernel_rfl)) .is .t (by rw [hwk];omega) (by rw [List.length_set,hwk];omega) (by rfl)) r2 r1 (qf (o_store_row (sz:=3) 1 .t (by intro x;rfl) (by rw [List.length_set,hwk];omega) (.conv .t (Ent.aggU (l:=rTx (Go.Gm.nth l1 ((k:Int)).toNat)) rfl rfl)) (by kernel_rfl)) r2 r1 qZ)))))))))))))))))) (by kernel_rfl) (by rw [hB];kernel_rfl) ?_
   clear hS;intro a w F hS
   obtain ⟨F,hS⟩:=hS.nm [76,75,74,73,72,71,70,69,68,67,66,65,64,63,62,61,58,57,56,55,13,10,4,3,2,1,0] [1,0] rfl rfl
   try dsimp only [List.map,stCells,xL,xM,Nat.reduceAdd,xD,xE,xT,xU,xC,xN,zCF,ldSF,rTx] at hS
   try simp only [Int.toNat_natCast] at hS
   rw [hwk] at hS
   simp only [Int.toNat_natCast] at hS
   obtain ⟨l2,hl2⟩:∃ z,z=mvUp l ka (k+1):=⟨_,rfl⟩
   rw [show (l1.set k (Go.Gm.nth l1 (k+1))).set (k+1) (Go.Gm.nth l1 k)=l2 from by rw [hl2,← mvUp_step hka (by omega),← hl1];rfl] at hS
   refine block_n (then_n ?_)
   refine region_z hS (qM rfl rfl (qf (o_add .t qi) r1 qz (qN rfl rfl qZ))) hB [76,75,74,73,72,71,70,69,68,67,66,65,64,63,62,61,60,59,58,57,56,55,13,10,4,3,2,1,0] [1,0] rfl rfl ?_
   clear hS;intro a w F hS
   refine then_n ?_
   replace hS:=hS.ent (i:=13) (s':=.pv (.int .i64 ((k+1:Nat):Int))) rfl (.int hwk)
   obtain ⟨F,hS⟩:=hS.nm [10,4,3,2,1,0,13] [0,1] rfl rfl
   exact ⟨((k+1),(l2)),F,⟨by omega,by omega,hl2⟩,hS,by omega⟩
  have hg:sortSeg TxD.id l ka kb=l1:=by rw [hl1,← hg1,show k=i - 1 by have h9:=hc3;rw [hwi] at h9;simp at h9;omega]
  refine wp_exit (then_x (then_x (block_x (then_n (wp_ret (then_r ?_))))))
  have hS:=hS.turn 1 rfl (r':=RS.hp (rowH 34 3 rTx (sortSeg TxD.id l ka kb) v)) (fun _ _ _ _ h=>by rw [hg];exact h)
  refine ret_G1 hG hS rfl .nil .none rfl
 have hm1:ka+1<km:=by have h9:=hc0;rw [wrap_i64 (by omega)] at h9;simp at h9;omega
 refine wp_skip (then_n (wp_seq (wp_seq ?_)))
 refine region_z hS (qM rfl rfl (qM rfl rfl (qf (o_sub .t .t) r2 qz (qf (o_eql .t qi) r1 qz qZ)))) hB [80,4,3,2,1,0] [1,0] rfl rfl ?_
 clear hS;intro a w F hS
 refine then_n ?_
 refine cond_b hS rfl (fun hc4=>?_) (fun hc4=>?_)
 ·skip
  have hm2:kb=km+1:=by have h9:=hc4;rw [wrap_i64 (by omega)] at h9;simp at h9;omega
  refine wp_seq ?_
  refine region_z hS (qM rfl rfl (qN rfl rfl qZ)) hB [14,4,3,2,1,0] [1,0] rfl rfl ?_
  clear hS;intro a w F hS
  refine then_n (wp_seq ?_)
  refine region_z hS (qM rfl rfl (qN rfl rfl qZ)) hB [15,14,4,3,2,1,0] [1,0] rfl rfl ?_
  clear hS;intro a w F hS
  refine then_n (wp_seq (wp_block ?_))
  have hc0:ka≤ka∧ka≤km∧km≤km∧(∀ q,ka≤q→q<ka→TxD.id (Go.Gm.nth l q)<TxD.id (Go.Gm.nth l km)) ∧ ∀ q,km≤q→q<km→TxD.id (Go.Gm.nth l km)<TxD.id (Go.Gm.nth l q):=⟨Nat.le_refl _,by omega,Nat.le_refl _,fun q h1 h2=>by omega,fun q h1 h2=>by omega⟩
  refine loop_keep (σ:=Nat×Nat) [0,1,2,3,4] [0,1] (fun s=>[(14,.pv (.int .i64 (s.1:Int))),(15,.pv (.int .i64 (s.2:Int)))]) (fun s=>[]) (fun s=>ka≤s.1∧s.1≤s.2∧s.2≤km∧(∀ q,ka≤q→q<s.1→TxD.id (Go.Gm.nth l q)<TxD.id (Go.Gm.nth l km)) ∧ ∀ q,s.2≤q→q<km→TxD.id (Go.Gm.nth l km)<TxD.id (Go.Gm.nth l q)) (fun s=>s.2 - s.1) ((ka),(km)) hS ⟨rfl,rfl,rfl,rfl,rfl,rfl,rfl,trivial⟩ ⟨rfl,rfl,trivial⟩ hc0 ?_
  clear hS;intro s a w F hC hS
  obtain ⟨i,j⟩:=s
  try dsimp only at hC
  obtain ⟨F,hS⟩:=hS.nm [15,14,4,3,2,1,0] [1,0] rfl rfl
  try dsimp only at hS
  obtain ⟨hki,hij,hjk,hlo,hhi⟩:=hC
  refine wp_seq (wp_seq ?_)
  refine region_z hS (qM rfl rfl (qM rfl rfl (qf (o_lss .t .t) r2 qz qZ))) hB [85,84,83,15,14,4,3,2,1,0] [1,0] rfl rfl ?_
  clear hS;intro a w F hS
  refine then_n ?_
  refine cond_b hS rfl (fun hc5=>?_) (fun hc5=>?_)
  ·skip
   have hlt:i<j:=by simp at hc5;omega
   refine wp_skip (then_n (wp_block (wp_seq ?_)))
   refine region_z hS (qM rfl rfl (qM rfl rfl (qf (o_add .t .t) r2 qz (qf (o_conv Tryz.underlying147 (by kernel_rfl) .t) r1 qz (qf (o_shr .t qi (by decide)) r1 qz (qf (o_conv Tryz.underlying3 (by kernel_rfl) .t) r1 qz (qN rfl rfl qZ))))))) hB [91,90,89,88,87,86,85,84,83,16,15,14,4,3,2,1,0] [1,0] rfl rfl ?_
   clear hS;intro a w F hS
   obtain ⟨m,hmm⟩:∃ m:Nat,m=(i+j) / 2:=⟨_,rfl⟩
   replace hS:=hS.ent (i:=16) (s':=.pv (.int .i64 (m:Int))) rfl (.int (by rw [hmm];exact mid_shr (by omega)))
   obtain ⟨F,hS⟩:=hS.nm [91,90,89,88,87,86,85,84,83,16,15,14,4,3,2,1,0] [1,0] rfl rfl
   refine then_n (wp_seq ?_)
   refine region_any (by kernel_rfl) hS (by kernel_rfl) (qM rfl rfl (qM rfl rfl (qM rfl rfl (qf (o_indexAddr_row (sz:=3) 1 (.mk Tryz.underlying27 (by kernel_rfl)) .is .t (by omega) (by omega) (by rfl)) r2 r1 (qf (o_load_row0 (ag:=true) (sz':=3) (sz:=3) 1 .t (by intro x;rfl) (by omega) (by kernel_rfl) (by kernel_rfl) (by kernel_rfl)) r1 r1 (qM rfl rfl (qM rfl rfl (qf (o_indexAddr_row (sz:=3) 1 (.mk Tryz.underlying27 (by kernel_rfl)) .is .t (by omega) (by omega) (by rfl)) r2 r1 (qf (o_load_row0 (ag:=true) (sz':=3) (sz:=3) 1 .t (by intro x;rfl) (by omega) (by kernel_rfl) (by kernel_rfl) (by kernel_rfl)) r1 r1 (qf (o_callClosP (avs:=[.agg (rTx (Go.Gm.nth l ((km:Int)).toNat)),.agg (rTx (Go.Gm.nth l ((m:Int)).toNat))]) .t (hw (Go.Gm.nth l ((km:Int)).toNat) (Go.Gm.nth l ((m:Int)).toNat)) hf hbd hnn (Args.two (.pagg .t) (.pagg .t))) r3 qz (qf (o_lss .t qi) r1 qz (qf (o_not .t) r1 qz qZ)))))))))))) (by kernel_rfl) (by rw [hB];kernel_rfl) ?_
   clear hS;intro a w F hS
   obtain ⟨F,hS⟩:=hS.nm [103,102,101,100,99,98,97,96,95,94,93,92,91,90,89,88,87,86,85,84,83,16,15,14,4,3,2,1,0] [1,0] rfl rfl
   try dsimp only [List.map,xD,xE,xT,xU,ldSF,rTx] at hS
   try simp only [Int.toNat_natCast] at hS
   refine then_n ?_
   refine cond_b hS rfl (fun hc6=>?_) (fun hc6=>?_)
   ·skip
    have h9:¬ cmpZ (TxD.id (Go.Gm.nth l km)) (TxD.id (Go.Gm.nth l m))<0:=by simpa using hc6
    have h8:=unl_gt hu (i:=km) (j:=m) (by omega) (by omega) (by omega) (fun e=>h9 (cmpZ_lt.2 e))
    obtain ⟨i2,hi2e⟩:∃ z,z=m+1:=⟨_,rfl⟩
    obtain ⟨j2,hj2e⟩:∃ z,z=j:=⟨_,rfl⟩
    have hi2:IntKind.wrap .i64 ((m:Int)+1)=(i2:Int):=by rw [hi2e];exact wrap_succ (by omega)
    have hj2:(j:Int)=(j2:Int):=by rw [hj2e]
    have hmu:j2 - i2<j - i:=by omega
    have hC2:ka≤i2∧i2≤j2∧j2≤km∧(∀ q,ka≤q→q<i2→TxD.id (Go.Gm.nth l q)<TxD.id (Go.Gm.nth l km)) ∧ ∀ q,j2≤q→q<km→TxD.id (Go.Gm.nth l km)<TxD.id (Go.Gm.nth l q):=⟨by omega,by omega,by omega,fun q h1 h2=>by rcases Nat.lt_or_ge q m with h | h;exact Int.lt_trans (hx9 q m h1 h (by omega)) h8;rw [show q=m by omega];exact h8,by rw [hj2e];exact hhi⟩
    refine region_z hS (qM rfl rfl (qf (o_add .t qi) r1 qz (qN rfl rfl qZ))) hB [105,104,103,102,101,100,99,98,97,96,95,94,93,92,91,90,89,88,87,86,85,84,83,16,15,14,4,3,2,1,0] [1,0] rfl rfl ?_
    clear hS;intro a w F hS
    refine block_n (then_n ?_)
    replace hS:=hS.ent (i:=14) (s':=.pv (.int .i64 (i2:Int))) rfl (.int hi2)
    replace hS:=hS.ent (i:=15) (s':=.pv (.int .i64 (j2:Int))) rfl (.int hj2)
    obtain ⟨F,hS⟩:=hS.nm [4,3,2,1,0,15,14] [1,0] rfl rfl
    exact ⟨((i2),(j2)),F,hC2,hS,hmu⟩
   have h9:cmpZ (TxD.id (Go.Gm.nth l km)) (TxD.id (Go.Gm.nth l m))<0:=by simpa using hc6
   have h8:=cmpZ_lt.1 h9
   obtain ⟨i2,hi2e⟩:∃ z,z=i:=⟨_,rfl⟩
   obtain ⟨j2,hj2e⟩:∃ z,z=m:=⟨_,rfl⟩
   have hi2:(i:Int)=(i2:Int):=by rw [hi2e]
   have hj2:(m:Int)=(j2:Int):=by rw [hj2e]
   have hmu:j2 - i2<j - i:=by omega
   have hC2:ka≤i2∧i2≤j2∧j2≤km∧(∀ q,ka≤q→q<i2→TxD.id (Go.Gm.nth l q)<TxD.id (Go.Gm.nth l km)) ∧ ∀ q,j2≤q→q<km→TxD.id (Go.Gm.nth l km)<TxD.id (Go.Gm.nth l q):=⟨by omega,by omega,by omega,by rw [hi2e];exact hlo,fun q h1 h2=>by rcases Nat.lt_or_ge m q with h | h;exact Int.lt_trans h8 (hx9 m q (by omega) h h2);rw [show q=m by omega];exact h8⟩
   refine region_z hS (qM rfl rfl (qN rfl rfl qZ)) hB [106,103,102,101,100,99,98,97,96,95,94,93,92,91,90,89,88,87,86,85,84,83,16,15,14,4,3,2,1,0] [1,0] rfl rfl ?_
   clear hS;intro a w F hS
   refine block_n (then_n ?_)
   replace hS:=hS.ent (i:=14) (s':=.pv (.int .i64 (i2:Int))) rfl (.int hi2)
   replace hS:=hS.ent (i:=15) (s':=.pv (.int .i64 (j2:Int))) rfl (.int hj2)
   obtain ⟨F,hS⟩:=hS.nm [4,3,2,1,0,15,14] [1,0] rfl rfl
   exact ⟨((i2),(j2)),F,hC2,hS,hmu⟩
  have hjj:i=j:=by simp at hc5;omega
  have hg1:mvDn l i km=sortSeg TxD.id l ka kb:=by rw [hm2];exact merge_last hki (by omega) (by omega) hx hlo (by rw [hjj];exact hhi)
  refine wp_exit (then_x (then_x (block_x (then_n (wp_seq (wp_seq ?_))))))
  refine region_z hS (qM rfl rfl (qN rfl rfl qZ)) hB [17,14,4,3,2,1,0] [1,0] rfl rfl ?_
  clear hS;intro a w F hS
  refine then_n (wp_block ?_)
  have hc1:i≤km∧km≤km∧l=mvDn l km km:=⟨by omega,Nat.le_refl _,(mvDn_self (by omega)).symm⟩
  refine loop_keep (σ:=Nat×List TxD) [0,1,2,3,4,14] [0] (fun s=>[(17,.pv (.int .i64 (s.1:Int)))]) (fun s=>[(1,.ob (.val v) (rowH 34 3 rTx s.2))]) (fun s=>i≤s.1∧s.1≤km∧s.2=mvDn l s.1 km) (fun s=>s.1) ((km),(l)) hS ⟨rfl,rfl,rfl,rfl,rfl,rfl,rfl,trivial⟩ ⟨rfl,rfl,trivial⟩ hc1 ?_
  clear hS;intro s a w F hC hS
  obtain ⟨k,l1⟩:=s
  try dsimp only at hC
  obtain ⟨F,hS⟩:=hS.nm [17,14,4,3,2,1,0] [1,0] rfl rfl
  try dsimp only at hS
  obtain ⟨hka,hki2,hl1⟩:=hC
  have hn1:l1.length=l.length:=by rw [hl1];exact mvDn_len hki2 (by omega)
  have hwk:i<k→IntKind.wrap .i64 ((k:Int) - 1)=((k - 1:Nat):Int):=fun h=>by rw [wrap_i64 (by omega)];omega
  refine wp_seq (wp_seq ?_)
  refine region_z hS (qM rfl rfl (qM rfl rfl (qf (o_gtr .t .t) r2 qz qZ))) hB [110,109,108,17,14,4,3,2,1,0] [1,0] rfl rfl ?_
  clear hS;intro a w F hS
  refine then_n ?_
  refine cond_b hS rfl (fun hc7=>?_) (fun hc7=>?_)
  ·skip
   have hlt:i<k:=by simp at hc7;omega
   refine wp_skip (then_n (wp_seq (wp_block ?_)))
   refine region_any (by kernel_rfl) hS (by kernel_rfl) (qM rfl rfl (qM rfl rfl (qM rfl rfl (qM rfl rfl (qf (o_sub .t qi) r1 qz (qM rfl rfl (qM rfl rfl (qf (o_sub .t qi) r1 qz (qf (o_indexAddr_row (sz:=3) 1 (.mk Tryz.underlying27 (by kernel_rfl)) .is .t (by rw [hwk hlt];omega) (by rw [hwk hlt];omega) (by rfl)) r2 r1 (qf (o_load_row0 (ag:=true) (sz':=3) (sz:=3) 1 .t (by intro x;rfl) (by rw [hwk hlt];omega) (by kernel_rfl) (by kernel_rfl) (by kernel_rfl)) r1 r1 (qM rfl rfl (qM rfl rfl (qf (o_indexAddr_row (sz:=3) 1 (.mk Tryz.underlying27 (by kernel_rfl)) .is .t (by omega) (by omega) (by rfl)) r2 r1 (qf (o_load_row0 (ag:=true) (sz':=3) (sz:=3) 1 .t (by intro x;rfl) (by omega) (by kernel_rfl) (by kernel_rfl) (by kernel_rfl)) r1 r1 (qf (o_indexAddr_row (sz:=3) 1 (.mk Tryz.underlying27 (by kernel_rfl)) .is .t (by omega) (by omega) (by rfl)) r2 r1 (qf (o_store_row (sz:=3) 1 .t (by intro x;rfl) (by omega) (.conv .t (Ent.aggU (l:=rTx (Go.Gm.nth l1 (IntKind.wrap .i64 ((k:Int) - 1)).toNat)) rfl rfl)) (by kernel_rfl)) r2 r1 (qf (o_indexAddr_row (sz:=3) 1 (.mk Tryz.underlying27 (by kernel_rfl)) .is .t (by rw [hwk hlt];omega) (by rw [List.length_set,hwk hlt];omega) (by rfl)) r2 r1 (qf (o_store_row (sz:=3) 1 .t (by intro x;rfl) (by rw [List.length_set,hwk hlt];omega) (.conv .t (Ent.aggU (l:=rTx (Go.Gm.nth l1 ((k:Int)).toNat)) rfl rfl)) (by kernel_rfl)) r2 r1 qZ)))))))))))))))))) (by kernel_rfl) (by rw [hB];kernel_rfl) ?_
   clear hS;intro a w F hS
   obtain ⟨F,hS⟩:=hS.nm [128,127,126,125,124,123,122,121,120,119,118,117,116,115,114,113,110,109,108,17,14,4,3,2,1,0] [1,0] rfl rfl
   try dsimp only [List.map,stCells,xL,xM,Nat.reduceAdd,xD,xE,xT,xU,xC,xN,zCF,ldSF,rTx] at hS
   try simp only [Int.toNat_natCast] at hS
   rw [hwk hlt] at hS
   simp only [Int.toNat_natCast] at hS
   obtain ⟨l2,hl2⟩:∃ z,z=mvDn l (k - 1) km:=⟨_,rfl⟩
   rw [show (l1.set k (Go.Gm.nth l1 (k - 1))).set (k - 1) (Go.Gm.nth l1 k)=l2 from by rw [hl2,← mvDn_step (by omega) hki2 (by omega),← hl1];rfl] at hS
   refine block_n (then_n ?_)
   refine region_z hS (qM rfl rfl (qf (o_sub .t qi) r1 qz (qN rfl rfl qZ))) hB [128,127,126,125,124,123,122,121,120,119,118,117,116,115,114,113,112,111,110,109,108,17,14,4,3,2,1,0] [1,0] rfl rfl ?_
   clear hS;intro a w F hS
   refine then_n ?_
   replace hS:=hS.ent (i:=17) (s':=.pv (.int .i64 ((k - 1:Nat):Int))) rfl (.int (hwk hlt))
   obtain ⟨F,hS⟩:=hS.nm [14,4,3,2,1,0,17] [0,1] rfl rfl
   exact ⟨((k - 1),(l2)),F,⟨by omega,by omega,hl2⟩,hS,by omega⟩
  have hg:sortSeg TxD.id l ka kb=l1:=by rw [hl1,← hg1,show k=i by simp at hc7;omega]
  refine wp_exit (then_x (then_x (block_x (then_n (wp_ret (then_r ?_))))))
  have hS:=hS.turn 1 rfl (r':=RS.hp (rowH 34 3 rTx (sortSeg TxD.id l ka kb) v)) (fun _ _ _ _ h=>by rw [hg];exact h)
  refine ret_G1 hG hS rfl .nil .none rfl
 have hm2:km+1<kb:=by have h9:=hc4;rw [wrap_i64 (by omega)] at h9;simp at h9;omega
 refine wp_skip (then_n (wp_seq ?_))
 refine region_z hS (qM rfl rfl (qM rfl rfl (qf (o_add .t .t) r2 qz (qf (o_conv Tryz.underlying147 (by kernel_rfl) .t) r1 qz (qf (o_shr .t qi (by decide)) r1 qz (qf (o_conv Tryz.underlying3 (by kernel_rfl) .t) r1 qz (qN rfl rfl qZ))))))) hB [18,4,3,2,1,0] [1,0] rfl rfl ?_
 clear hS;intro a w F hS
 obtain ⟨mid,hmmid⟩:∃ m:Nat,m=(ka+kb) / 2:=⟨_,rfl⟩
 replace hS:=hS.ent (i:=18) (s':=.pv (.int .i64 (mid:Int))) rfl (.int (by rw [hmmid];exact mid_shr (by omega)))
 obtain ⟨F,hS⟩:=hS.nm [18,4,3,2,1,0] [1,0] rfl rfl
 refine then_n (wp_seq ?_)
 refine region_z hS (qM rfl rfl (qM rfl rfl (qf (o_add .t .t) r2 qz (qN rfl rfl qZ)))) hB [19,18,4,3,2,1,0] [1,0] rfl rfl ?_
 clear hS;intro a w F hS
 replace hS:=hS.ent (i:=19) (s':=.pv (.int .i64 ((mid+km:Nat):Int))) rfl (.int (by rw [wrap_i64 (by omega)];omega))
 obtain ⟨F,hS⟩:=hS.nm [19,18,4,3,2,1,0] [1,0] rfl rfl
 refine then_n (wp_seq ?_)
 refine region_z hS (qf (oN qi) trivial qz (qf (oN qi) trivial qz qZ)) hB [21,20,19,18,4,3,2,1,0] [1,0] rfl rfl ?_
 clear hS;intro a w F hS
 refine then_n (wp_seq (wp_seq ?_))
 refine region_z hS (qM rfl rfl (qM rfl rfl (qf (o_gtr .t .t) r2 qz qZ))) hB [140,21,20,19,18,4,3,2,1,0] [1,0] rfl rfl ?_
 clear hS;intro a w F hS
 refine then_n ?_
 refine join_keep (σ:=Nat×Nat) [0,1,2,3,4,18,19] [0,1] (fun s=>[(20,.pv (.int .i64 (s.1:Int))),(21,.pv (.int .i64 (s.2:Int)))]) (fun s=>[]) (fun s=>(mid<km∧s.1+kb=mid+km∧s.2=mid)∨(km≤mid∧s.1=ka∧s.2=km)) hS ?_ ?_
 ·skip
  refine cond_b hS rfl (fun hc8=>?_) (fun hc8=>?_)
  ·skip
   have hmm:mid<km:=by simp at hc8;omega
   obtain ⟨s0,s0e⟩:∃ z,z=mid+km - kb:=⟨_,rfl⟩
   obtain ⟨r0,r0e⟩:∃ z,z=mid:=⟨_,rfl⟩
   have hs0:(mid<km∧s0+kb=mid+km∧r0=mid)∨(km≤mid∧s0=ka∧r0=km):=.inl ⟨hmm,by omega,r0e⟩
   have hcs:IntKind.wrap .i64 (((mid+km:Nat):Int) - (kb:Int))=(s0:Int):=by rw [wrap_i64 (by omega)];omega
   have hcr:(mid:Int)=(r0:Int):=by rw [r0e]
   refine wp_seq ?_
   refine region_z hS (qM rfl rfl (qM rfl rfl (qf (o_sub .t .t) r2 qz (qN rfl rfl qZ)))) hB [21,20,19,18,4,3,2,1,0] [1,0] rfl rfl ?_
   clear hS;intro a w F hS
   refine then_n ?_
   refine region_z hS (qM rfl rfl (qN rfl rfl qZ)) hB [21,20,19,18,4,3,2,1,0] [1,0] rfl rfl ?_
   clear hS;intro a w F hS
   refine then_n ?_
   replace hS:=hS.ent (i:=20) (s':=.pv (.int .i64 (s0:Int))) rfl (.int hcs)
   replace hS:=hS.ent (i:=21) (s':=.pv (.int .i64 (r0:Int))) rfl (.int hcr)
   obtain ⟨F,hS⟩:=hS.nm [19,18,4,3,2,1,0,21,20] [1,0] rfl rfl
   exact ⟨((s0),(r0)),F,hs0,hS⟩
  have hmm:km≤mid:=by simp at hc8;omega
  obtain ⟨s0,s0e⟩:∃ z,z=ka:=⟨_,rfl⟩
  obtain ⟨r0,r0e⟩:∃ z,z=km:=⟨_,rfl⟩
  have hs0:(mid<km∧s0+kb=mid+km∧r0=mid)∨(km≤mid∧s0=ka∧r0=km):=.inr ⟨hmm,s0e,r0e⟩
  have hcs:(ka:Int)=(s0:Int):=by rw [s0e]
  have hcr:(km:Int)=(r0:Int):=by rw [r0e]
  refine wp_seq ?_
  refine region_z hS (qM rfl rfl (qN rfl rfl qZ)) hB [21,20,19,18,4,3,2,1,0] [1,0] rfl rfl ?_
  clear hS;intro a w F hS
  refine then_n ?_
  refine region_z hS (qM rfl rfl (qN rfl rfl qZ)) hB [21,20,19,18,4,3,2,1,0] [1,0] rfl rfl ?_
  clear hS;intro a w F hS
  refine then_n ?_
  replace hS:=hS.ent (i:=20) (s':=.pv (.int .i64 (s0:Int))) rfl (.int hcs)
  replace hS:=hS.ent (i:=21) (s':=.pv (.int .i64 (r0:Int))) rfl (.int hcr)
  obtain ⟨F,hS⟩:=hS.nm [19,18,4,3,2,1,0,21,20] [1,0] rfl rfl
  exact ⟨((s0),(r0)),F,hs0,hS⟩
 clear hS;intro s a w F hC hS
 obtain ⟨s0,r0⟩:=s
 try dsimp only at hC
 obtain ⟨F,hS⟩:=hS.nm [21,20,19,18,4,3,2,1,0] [1,0] rfl rfl
 try dsimp only at hS
 have hs0:=hC
 refine wp_seq ?_
 refine region_z hS (qM rfl rfl (qf (o_sub .t qi) r1 qz (qN rfl rfl qZ))) hB [22,21,20,19,18,4,3,2,1,0] [1,0] rfl rfl ?_
 clear hS;intro a w F hS
 replace hS:=hS.ent (i:=22) (s':=.pv (.int .i64 ((mid+km - 1:Nat):Int))) rfl (.int (by rw [wrap_i64 (by omega)];omega))
 obtain ⟨F,hS⟩:=hS.nm [22,21,20,19,18,4,3,2,1,0] [1,0] rfl rfl
 refine then_n (wp_seq (wp_block ?_))
 have hsr0:s0≤r0∧ka≤s0∧r0≤km∧r0≤mid:=by omega
 refine loop_keep (σ:=Nat×Nat) [0,1,2,3,4,18,19,22] [0,1] (fun s=>[(20,.pv (.int .i64 (s.1:Int))),(21,.pv (.int .i64 (s.2:Int)))]) (fun s=>[]) (fun s=>s0≤s.1∧s.1≤s.2∧s.2≤r0∧(s.1=s0∨TxD.id (Go.Gm.nth l (s.1 - 1))<TxD.id (Go.Gm.nth l (mid+km - s.1)))∧(s.2=r0∨TxD.id (Go.Gm.nth l (mid+km - 1 - s.2))<TxD.id (Go.Gm.nth l s.2))) (fun s=>s.2 - s.1) ((s0),(r0)) hS ⟨rfl,rfl,rfl,rfl,rfl,rfl,rfl,rfl,rfl,rfl,trivial⟩ ⟨rfl,rfl,trivial⟩ ⟨Nat.le_refl _,hsr0.1,Nat.le_refl _,.inl rfl,.inl rfl⟩ ?_
 clear hS;intro s a w F hC hS
 obtain ⟨st,r⟩:=s
 try dsimp only at hC
 obtain ⟨F,hS⟩:=hS.nm [22,21,20,19,18,4,3,2,1,0] [1,0] rfl rfl
 try dsimp only at hS
 obtain ⟨hs1,hsr,hr1,hlo,hhi⟩:=hC
 refine wp_seq (wp_seq ?_)
 refine region_z hS (qM rfl rfl (qM rfl rfl (qf (o_lss .t .t) r2 qz qZ))) hB [151,150,149,22,21,20,19,18,4,3,2,1,0] [1,0] rfl rfl ?_
 clear hS;intro a w F hS
 refine then_n ?_
 refine cond_b hS rfl (fun hc9=>?_) (fun hc9=>?_)
 ·skip
  have hlt:st<r:=by simp at hc9;omega
  refine wp_skip (then_n (wp_block (wp_seq ?_)))
  refine region_z hS (qM rfl rfl (qM rfl rfl (qf (o_add .t .t) r2 qz (qf (o_conv Tryz.underlying147 (by kernel_rfl) .t) r1 qz (qf (o_shr .t qi (by decide)) r1 qz (qf (o_conv Tryz.underlying3 (by kernel_rfl) .t) r1 qz (qN rfl rfl qZ))))))) hB [157,156,155,154,153,152,151,150,149,23,22,21,20,19,18,4,3,2,1,0] [1,0] rfl rfl ?_
  clear hS;intro a w F hS
  obtain ⟨m,hmm⟩:∃ m:Nat,m=(st+r) / 2:=⟨_,rfl⟩
  replace hS:=hS.ent (i:=23) (s':=.pv (.int .i64 (m:Int))) rfl (.int (by rw [hmm];exact mid_shr (by omega)))
  obtain ⟨F,hS⟩:=hS.nm [157,156,155,154,153,152,151,150,149,23,22,21,20,19,18,4,3,2,1,0] [1,0] rfl rfl
  have hwp:IntKind.wrap .i64 (((mid+km - 1:Nat):Int) - (m:Int))=((mid+km - 1 - m:Nat):Int):=by rw [wrap_i64 (by omega)];omega
  refine then_n (wp_seq ?_)
  refine region_any (by kernel_rfl) hS (by kernel_rfl) (qM rfl rfl (qM rfl rfl (qM rfl rfl (qM rfl rfl (qf (o_sub .t .t) r2 qz (qf (o_indexAddr_row (sz:=3) 1 (.mk Tryz.underlying27 (by kernel_rfl)) .is .t (by rw [hwp];omega) (by rw [hwp];omega) (by rfl)) r2 r1 (qf (o_load_row0 (ag:=true) (sz':=3) (sz:=3) 1 .t (by intro x;rfl) (by rw [hwp];omega) (by kernel_rfl) (by kernel_rfl) (by kernel_rfl)) r1 r1 (qM rfl rfl (qM rfl rfl (qf (o_indexAddr_row (sz:=3) 1 (.mk Tryz.underlying27 (by kernel_rfl)) .is .t (by omega) (by omega) (by rfl)) r2 r1 (qf (o_load_row0 (ag:=true) (sz':=3) (sz:=3) 1 .t (by intro x;rfl) (by omega) (by kernel_rfl) (by kernel_rfl) (by kernel_rfl)) r1 r1 (qf (o_callClosP (avs:=[.agg (rTx (Go.Gm.nth l (IntKind.wrap .i64 (((mid+km - 1:Nat):Int) - (m:Int))).toNat)),.agg (rTx (Go.Gm.nth l ((m:Int)).toNat))]) .t (hw (Go.Gm.nth l (IntKind.wrap .i64 (((mid+km - 1:Nat):Int) - (m:Int))).toNat) (Go.Gm.nth l ((m:Int)).toNat)) hf hbd hnn (Args.two (.pagg .t) (.pagg .t))) r3 qz (qf (o_lss .t qi) r1 qz (qf (o_not .t) r1 qz qZ)))))))))))))) (by kernel_rfl) (by rw [hB];kernel_rfl) ?_
  clear hS;intro a w F hS
  obtain ⟨F,hS⟩:=hS.nm [171,170,169,168,167,166,165,164,163,162,161,160,159,158,157,156,155,154,153,152,151,150,149,23,22,21,20,19,18,4,3,2,1,0] [1,0] rfl rfl
  try dsimp only [List.map,xD,xE,xT,xU,ldSF,rTx] at hS
  try simp only [Int.toNat_natCast] at hS
  refine then_n ?_
  refine cond_b hS rfl (fun hc10=>?_) (fun hc10=>?_)
  ·skip
   have h9:¬ cmpZ (TxD.id (Go.Gm.nth l (IntKind.wrap .i64 (((mid+km - 1:Nat):Int) - (m:Int))).toNat)) (TxD.id (Go.Gm.nth l m))<0:=by simpa using hc10
   rw [hwp,Int.toNat_natCast] at h9
   have h8:=unl_gt hu (i:=(mid+km - 1 - m)) (j:=m) (by omega) (by omega) (by omega) (fun e=>h9 (cmpZ_lt.2 e))
   obtain ⟨i2,hi2e⟩:∃ z,z=m+1:=⟨_,rfl⟩
   obtain ⟨j2,hj2e⟩:∃ z,z=r:=⟨_,rfl⟩
   have hi2:IntKind.wrap .i64 ((m:Int)+1)=(i2:Int):=by rw [hi2e];exact wrap_succ (by omega)
   have hj2:(r:Int)=(j2:Int):=by rw [hj2e]
   have hmu:j2 - i2<r - st:=by omega
   have hC2:s0≤i2∧i2≤j2∧j2≤r0∧(i2=s0∨TxD.id (Go.Gm.nth l (i2 - 1))<TxD.id (Go.Gm.nth l (mid+km - i2)))∧(j2=r0∨TxD.id (Go.Gm.nth l (mid+km - 1 - j2))<TxD.id (Go.Gm.nth l j2)):=⟨by omega,by omega,by omega,.inr (by rw [show i2 - 1=m by omega,show mid+km - i2=mid+km - 1 - m by omega];exact h8),by rw [hj2e];exact hhi⟩
   refine region_z hS (qM rfl rfl (qf (o_add .t qi) r1 qz (qN rfl rfl qZ))) hB [173,172,171,170,169,168,167,166,165,164,163,162,161,160,159,158,157,156,155,154,153,152,151,150,149,23,22,21,20,19,18,4,3,2,1,0] [1,0] rfl rfl ?_
   clear hS;intro a w F hS
   refine block_n (then_n ?_)
   replace hS:=hS.ent (i:=20) (s':=.pv (.int .i64 (i2:Int))) rfl (.int hi2)
   replace hS:=hS.ent (i:=21) (s':=.pv (.int .i64 (j2:Int))) rfl (.int hj2)
   obtain ⟨F,hS⟩:=hS.nm [22,19,18,4,3,2,1,0,21,20] [1,0] rfl rfl
   exact ⟨((i2),(j2)),F,hC2,hS,hmu⟩
  have h9:cmpZ (TxD.id (Go.Gm.nth l (IntKind.wrap .i64 (((mid+km - 1:Nat):Int) - (m:Int))).toNat)) (TxD.id (Go.Gm.nth l m))<0:=by simpa using hc10
  rw [hwp,Int.toNat_natCast] at h9
  have h8:=cmpZ_lt.1 h9
  obtain ⟨i2,hi2e⟩:∃ z,z=st:=⟨_,rfl⟩
  obtain ⟨j2,hj2e⟩:∃ z,z=m:=⟨_,rfl⟩
  have hi2:(st:Int)=(i2:Int):=by rw [hi2e]
  have hj2:(m:Int)=(j2:Int):=by rw [hj2e]
  have hmu:j2 - i2<r - st:=by omega
  have hC2:s0≤i2∧i2≤j2∧j2≤r0∧(i2=s0∨TxD.id (Go.Gm.nth l (i2 - 1))<TxD.id (Go.Gm.nth l (mid+km - i2)))∧(j2=r0∨TxD.id (Go.Gm.nth l (mid+km - 1 - j2))<TxD.id (Go.Gm.nth l j2)):=⟨by omega,by omega,by omega,by rw [hi2e];exact hlo,.inr (by rw [hj2e];exact h8)⟩
  refine region_z hS (qM rfl rfl (qN rfl rfl qZ)) hB [174,171,170,169,168,167,166,165,164,163,162,161,160,159,158,157,156,155,154,153,152,151,150,149,23,22,21,20,19,18,4,3,2,1,0] [1,0] rfl rfl ?_
  clear hS;intro a w F hS
  refine block_n (then_n ?_)
  replace hS:=hS.ent (i:=20) (s':=.pv (.int .i64 (i2:Int))) rfl (.int hi2)
  replace hS:=hS.ent (i:=21) (s':=.pv (.int .i64 (j2:Int))) rfl (.int hj2)
  obtain ⟨F,hS⟩:=hS.nm [22,19,18,4,3,2,1,0,21,20] [1,0] rfl rfl
  exact ⟨((i2),(j2)),F,hC2,hS,hmu⟩
 have hjj:r=st:=by simp at hc9;omega
 rw [hjj] at hhi hr1
 obtain ⟨⟨k1,k2,k3⟩,kc1,kc2⟩:=sym_cond (κ:=TxD.id) (l:=l) (a:=ka) (m:=km) (b:=kb) (mid:=mid) (start:=st) h3 h1 h2 (by omega) (by omega) (by omega) hx hy hs0 hs1 hr1 hlo hhi (by omega)
 obtain ⟨en,ene⟩:∃ z,z=mid+km - st:=⟨_,rfl⟩
 rw [← ene] at k2 k3 kc1 kc2
 obtain ⟨hst1,hr1a,hr1b,hr2a,hr2b,-,-⟩:=sym_step (κ:=TxD.id) (l:=l) (a:=ka) (start:=st) (m:=km) (e:=en) (b:=kb) (mid:=mid) (by omega) k1 k2 k3 h3 (by omega) hx hy (seg_unl hu _ _) kc1 kc2
 obtain ⟨l1,l1e⟩:∃ z,z=rotSeg l st km en:=⟨_,rfl⟩
 rw [← l1e] at hst1 hr1a hr1b hr2a hr2b
 obtain ⟨l2,l2e⟩:∃ z,z=sortSeg TxD.id l1 ka mid:=⟨_,rfl⟩
 rw [← l2e] at hst1 hr2a hr2b
 obtain ⟨l3,l3e⟩:∃ z,z=sortSeg TxD.id l2 mid kb:=⟨_,rfl⟩
 rw [← l3e] at hst1
 have hg:sortSeg TxD.id l ka kb=l3:=hst1.symm
 have hn1:l1.length≤1000000:=by rw [l1e,rot_len k1 k2 (by omega)];exact hll
 have hm1l:l1.length=l.length:=by rw [l1e,rot_len k1 k2 (by omega)]
 have hn2:l2.length≤1000000:=by rw [l2e,sortSeg_len (by omega)];exact hn1
 have hm2l:l2.length=l.length:=by rw [l2e,sortSeg_len (by omega)];exact hm1l
 have hu1:Unl TxD.id l1:=by rw [l1e];exact hu.perm (rot_perm k1 k2).symm
 have hu2:Unl TxD.id l2:=by rw [l2e];exact sortSeg_unl (by omega) hu1
 have hce:IntKind.wrap .i64 (((mid+km:Nat):Int) - (st:Int))=(en:Int):=by rw [wrap_i64 (by omega)];omega
 refine wp_exit (then_x (then_x (block_x (then_n (wp_seq ?_)))))
 refine region_z hS (qM rfl rfl (qM rfl rfl (qf (o_sub .t .t) r2 qz (qN rfl rfl qZ)))) hB [24,20,18,4,3,2,1,0] [1,0] rfl rfl ?_
 clear hS;intro a w F hS
 replace hS:=hS.ent (i:=24) (s':=.pv (.int .i64 (en:Int))) rfl (.int (hce))
 obtain ⟨F,hS⟩:=hS.nm [24,20,18,4,3,2,1,0] [1,0] rfl rfl
 refine then_n (wp_seq (wp_seq ?_))
 refine region_z hS (qM rfl rfl (qM rfl rfl (qf (o_lss .t .t) r2 qz (qM rfl rfl (qm rfl rfl rfl rfl (qm rfl rfl rfl rfl (qk rfl (fun h=>o_lss (.w h) (.w h)) r3 qz (qf (o_and2 .t .t) r2 qz qZ)))))))) hB [185,24,20,18,4,3,2,1,0] [1,0] rfl rfl ?_
 clear hS;intro a w F hS
 refine then_n ?_
 refine join_keep (σ:=Unit) [0,1,3,4,18,20,24] [0] (fun s=>[]) (fun s=>[(1,.ob (.val v) (rowH 34 3 rTx l1))]) (fun s=>True) hS ?_ ?_
 ·skip
  refine cond_b hS rfl (fun hc11=>?_) (fun hc11=>?_)
  ·skip
   have h9:st<km∧km<en:=by simpa using hc11
   refine region_z hS (qM rfl rfl (qM rfl rfl (qM rfl rfl (qM rfl rfl (qM rfl rfl (qf (o_callRow 1 (rotT v l st km en hll (by omega) (by omega) (by omega) f cps) Tryz.func184 rfl (by kernel_rfl) (Args.five .t .t .t .t .t)) r5 r1 qZ)))))) hB [24,20,18,4,3,1,0] [1,0] rfl rfl ?_
   clear hS;intro a w F hS
   rw [← l1e] at hS
   refine then_n ?_
   obtain ⟨F,hS⟩:=hS.nm [24,20,18,4,3,1,0] [0,1] rfl rfl
   exact ⟨(()),F,trivial,hS⟩
  have h9:¬ (st<km∧km<en):=by simpa using hc11
  have hlr:l=l1:=by rw [l1e];exact (rot_none k1 k2 (by omega)).symm
  rw [hlr] at hS
  refine wp_skip (then_n ?_)
  obtain ⟨F,hS⟩:=hS.nm [24,20,18,4,3,1,0] [0,1] rfl rfl
  exact ⟨(()),F,trivial,hS⟩
 clear hS;intro u a w F hC hS
 try dsimp only at hC
 obtain ⟨F,hS⟩:=hS.nm [24,20,18,4,3,1,0] [1,0] rfl rfl
 try dsimp only at hS
 refine wp_seq (wp_seq ?_)
 refine region_z hS (qM rfl rfl (qM rfl rfl (qf (o_lss .t .t) r2 qz (qM rfl rfl (qm rfl rfl rfl rfl (qm rfl rfl rfl rfl (qk rfl (fun h=>o_lss (.w h) (.w h)) r3 qz (qf (o_and2 .t .t) r2 qz qZ)))))))) hB [199,24,20,18,4,3,1,0] [1,0] rfl rfl ?_
 clear hS;intro a w F hS
 refine then_n ?_
 refine join_keep (σ:=Unit) [0,3,4,18,24] [0] (fun s=>[]) (fun s=>[(1,.ob (.val v) (rowH 34 3 rTx l2))]) (fun s=>True) hS ?_ ?_
 ·skip
  refine cond_b hS rfl (fun hc12=>?_) (fun hc12=>?_)
  ·skip
   have h9:ka<st∧st<mid:=by simpa using hc12
   refine region_z hS (qM rfl rfl (qM rfl rfl (qM rfl rfl (qM rfl rfl (qM rfl rfl (qf (o_callRow 1 (ih l1 ka st mid (by omega) hn1 (by omega) (by omega) (by omega) hu1 hr1a hr1b) Tryz.func173 rfl (by kernel_rfl) (Args.five .t .t .t .t .t)) r5 r1 qZ)))))) hB [24,18,4,3,0] [1,0] rfl rfl ?_
   clear hS;intro a w F hS
   rw [← l2e] at hS
   refine then_n ?_
   obtain ⟨F,hS⟩:=hS.nm [24,18,4,3,0] [0,1] rfl rfl
   exact ⟨(()),F,trivial,hS⟩
  have h9:¬ (ka<st∧st<mid):=by simpa using hc12
  have hlr:l1=l2:=by rw [l2e];refine (sortSeg_rise (by omega) ?_).symm; (rcases Nat.lt_or_ge ka st with h | h); (rw [show mid=st by omega];exact hr1a); (rw [show ka=st by omega];exact hr1b)
  rw [hlr] at hS
  refine wp_skip (then_n ?_)
  obtain ⟨F,hS⟩:=hS.nm [24,18,4,3,0] [0,1] rfl rfl
  exact ⟨(()),F,trivial,hS⟩
 clear hS;intro u a w F hC hS
 try dsimp only at hC
 obtain ⟨F,hS⟩:=hS.nm [24,18,4,3,0] [1,0] rfl rfl
 try dsimp only at hS
 refine wp_seq ?_
 refine region_z hS (qM rfl rfl (qM rfl rfl (qf (o_lss .t .t) r2 qz (qM rfl rfl (qm rfl rfl rfl rfl (qm rfl rfl rfl rfl (qk rfl (fun h=>o_lss (.w h) (.w h)) r3 qz (qf (o_and2 .t .t) r2 qz qZ)))))))) hB [213,24,18,4,3,0] [1,0] rfl rfl ?_
 clear hS;intro a w F hS
 refine then_n ?_
 refine cond_b hS rfl (fun hc13=>?_) (fun hc13=>?_)
 ·skip
  have h9:mid<en∧en<kb:=by simpa using hc13
  refine region_z hS (qM rfl rfl (qM rfl rfl (qM rfl rfl (qM rfl rfl (qM rfl rfl (qf (o_callRow 1 (ih l2 mid en kb (by omega) hn2 (by omega) (by omega) (by omega) hu2 hr2a hr2b) Tryz.func173 rfl (by kernel_rfl) (Args.five .t .t .t .t .t)) r5 r1 qZ)))))) hB [] [1,0] rfl rfl ?_
  clear hS;intro a w F hS
  rw [← l3e] at hS
  have hS:=hS.turn 1 rfl (r':=RS.hp (rowH 34 3 rTx (sortSeg TxD.id l ka kb) v)) (fun _ _ _ _ h=>by rw [hg];exact h)
  refine ret_G1 hG hS rfl .nil .none rfl
 have h9:¬ (mid<en∧en<kb):=by simpa using hc13
 have hlr:l2=l3:=by rw [l3e];refine (sortSeg_rise (by omega) ?_).symm; (rcases Nat.lt_or_ge mid en with h | h); (rw [show kb=en by omega];exact hr2a); (rw [show mid=en by omega];exact hr2b)
 rw [hlr] at hS
 refine wp_skip ?_
 have hS:=hS.turn 1 rfl (r':=RS.hp (rowH 34 3 rTx (sortSeg TxD.id l ka kb) v)) (fun _ _ _ _ h=>by rw [hg];exact h)
 refine ret_G1 hG hS rfl .nil .none rfl
theorem symT (v : Value) (f : FuncId) (fn : Func) (cps : List PV) (hf : Tryz.prog.funcs[f]? = some fn) (hbd : fn.body.isSome = true) (hnn : (fn.name == "runtime.NumGoroutine") = false) (hw : ∀ x y : TxD, FnP Tryz.prog f (.agg (rTx x) :: .agg (rTx y) :: cps) (.int .i64 (cmpZ (TxD.id x) (TxD.id y)))) : ∀ (n : Nat) (l : List TxD) (ka km kb : Nat), kb - ka < n → l.length ≤ 1000000 → ka < km → km < kb → kb ≤ l.length → Unl TxD.id l → RiseK TxD.id (seg l ka km) → RiseK TxD.id (seg l km kb) → FnG Tryz.prog 173 1 [.is v, .int .i64 (ka : Nat), .int .i64 (km : Nat), .int .i64 (kb : Nat), .clos f cps] [rowH 34 3 rTx l v] (.tup []) (fun _ => [rowH 34 3 rTx (sortSeg TxD.id l ka kb) v]) := fun n => by
 induction n with
 | zero=>intro l ka km kb h;omega
 | succ n ih=>intro l ka km kb hn hll h1 h2 h3 hu hx hy;exact symST v l ka km kb hll h1 h2 h3 hu hx hy f fn cps hf hbd hnn hw n ih hn
theorem stabT (v : Value) (l : List TxD)  (hll : l.length ≤ 1000000) (hu : Unl TxD.id l) (f : FuncId) (fn : Func) (cps : List PV) (hf : Tryz.prog.funcs[f]? = some fn) (hbd : fn.body.isSome = true) (hnn : (fn.name == "runtime.NumGoroutine") = false) (hw : ∀ x y : TxD, FnP Tryz.prog f (.agg (rTx x) :: .agg (rTx y) :: cps) (.int .i64 (cmpZ (TxD.id x) (TxD.id y)))) : FnG Tryz.prog 146 1 [.is v, .int .i64 l.length, .clos f cps] [rowH 34 3 rTx l v] (.tup []) (fun _ => [rowH 34 3 rTx (sortZ TxD.id l) v]) := by
 refine FnG.mk Tryz.func146 rfl Tryz.ntmps146 rfl (by kernel_rfl) ?_
 intro B F0 a w F hB hG hS
 replace hS:=hS.turn 1 rfl (r':=.ob (.val v) (rowH 34 3 rTx l)) (fun _ _ _ _ h=>h)
 refine wp_seq ?_
 refine region_z hS (qf (oN qi) trivial qz qZ) hB [6,2,1,0] [1,0] rfl rfl ?_
 clear hS;intro a w F hS
 refine then_n (wp_seq ?_)
 refine region_z hS (qM rfl rfl (qf (oN qi) trivial qz (qN rfl rfl qZ))) hB [8,7,6,2,1,0] [1,0] rfl rfl ?_
 clear hS;intro a w F hS
 refine then_n (wp_seq (wp_block ?_))
 have hc0:BlkL TxD.id l 20 0:=fun t ht=>by omega
 replace hS:=hS.ent (i:=7) (s':=.pv (.int .i64 ((0:Nat):Int))) rfl (.int rfl)
 replace hS:=hS.ent (i:=8) (s':=.pv (.int .i64 ((0+20:Nat):Int))) rfl (.int rfl)
 refine loop_keep (σ:=Nat×List TxD) [0,1,2,6] [0] (fun s=>[(7,.pv (.int .i64 (s.1:Int))),(8,.pv (.int .i64 ((s.1+20:Nat):Int)))]) (fun s=>[(1,.ob (.val v) (rowH 34 3 rTx s.2))]) (fun s=>s.1≤l.length∧(∃ t,s.1=t*20)∧s.2.length=l.length∧Unl TxD.id s.2∧s.2.Perm l∧BlkL TxD.id s.2 20 s.1) (fun s=>l.length - s.1) ((0),(l)) hS ⟨rfl,rfl,rfl,rfl,rfl,rfl,trivial⟩ ⟨rfl,rfl,trivial⟩ ⟨Nat.zero_le _,⟨0,rfl⟩,rfl,hu,List.Perm.refl _,hc0⟩ ?_
 clear hS;intro s a w F hC hS
 obtain ⟨q,l1⟩:=s
 try dsimp only at hC
 obtain ⟨F,hS⟩:=hS.nm [8,7,6,2,1,0] [1,0] rfl rfl
 try dsimp only at hS
 obtain ⟨hql,⟨t,ht⟩,hn1,hu1,hp1,hB1⟩:=hC
 refine wp_seq (wp_seq ?_)
 refine region_z hS (qM rfl rfl (qM rfl rfl (qf (o_leq .t .t) r2 qz qZ))) hB [13,8,7,6,2,1,0] [1,0] rfl rfl ?_
 clear hS;intro a w F hS
 refine then_n ?_
 refine cond_b hS rfl (fun hc0=>?_) (fun hc0=>?_)
 ·skip
  have hlt:q+20≤l.length:=by simp at hc0;omega
  obtain ⟨l2,l2e⟩:∃ z,z=sortSeg TxD.id l1 q (q+20):=⟨_,rfl⟩
  refine wp_skip (then_n (wp_block (wp_seq ?_)))
  refine region_z hS (qM rfl rfl (qM rfl rfl (qM rfl rfl (qM rfl rfl (qf (o_callRow 1 (insT v l1 q (q+20) (by omega) (by omega) (by omega) hu1 f fn cps hf hbd hnn hw) Tryz.func172 rfl (by kernel_rfl) (Args.four .t .t .t .t)) r4 r1 qZ))))) hB [8,7,6,2,1,0] [1,0] rfl rfl ?_
  clear hS;intro a w F hS
  rw [← l2e] at hS
  refine then_n (wp_seq ?_)
  refine region_z hS (qM rfl rfl (qN rfl rfl qZ)) hB [8,7,6,2,1,0] [1,0] rfl rfl ?_
  clear hS;intro a w F hS
  refine then_n ?_
  refine region_z hS (qM rfl rfl (qM rfl rfl (qf (o_add .t .t) r2 qz (qN rfl rfl qZ)))) hB [8,7,6,2,1,0] [1,0] rfl rfl ?_
  clear hS;intro a w F hS
  refine block_n (then_n ?_)
  have hB2:BlkL TxD.id l2 20 (q+20):=by rw [l2e,ht];exact blkL_next (by omega) (by rw [← ht];exact hB1) (by omega) hu1
  replace hS:=hS.ent (i:=8) (s':=.pv (.int .i64 ((q+20+20:Nat):Int))) rfl (.int (by rw [wrap_i64 (by omega)];omega))
  obtain ⟨F,hS⟩:=hS.nm [6,2,1,0,8,7] [0,1] rfl rfl
  exact ⟨((q+20),(l2)),F,⟨by omega,⟨t+1,by omega⟩,by rw [l2e,sortSeg_len (by omega)];exact hn1,by rw [l2e];exact sortSeg_unl (by omega) hu1,by rw [l2e];exact (sortSeg_perm (by omega)).trans hp1,hB2⟩,hS,by omega⟩
 have hlt:l.length<q+20:=by simp at hc0;omega
 obtain ⟨l2,l2e⟩:∃ z,z=sortSeg TxD.id l1 q l.length:=⟨_,rfl⟩
 have hn2:l2.length=l.length:=by rw [l2e,sortSeg_len (by omega)];exact hn1
 have hu2:Unl TxD.id l2:=by rw [l2e];exact sortSeg_unl (by omega) hu1
 have hp2:l2.Perm l:=by rw [l2e];exact (sortSeg_perm (by omega)).trans hp1
 have hB2:BlkR TxD.id l2 20 0:=by rw [l2e,ht,← hn1];exact blk_last (by omega) (by rw [← ht];exact hB1) (by omega) (by omega) hu1
 refine wp_exit (then_x (then_x (block_x (then_n (wp_seq ?_)))))
 refine region_z hS (qM rfl rfl (qM rfl rfl (qM rfl rfl (qM rfl rfl (qf (o_callRow 1 (insT v l1 q l.length (by omega) (by omega) (by omega) hu1 f fn cps hf hbd hnn hw) Tryz.func172 rfl (by kernel_rfl) (Args.four .t .t .t .t)) r4 r1 qZ))))) hB [6,2,1,0] [1,0] rfl rfl ?_
 clear hS;intro a w F hS
 rw [← l2e] at hS
 refine then_n (wp_block ?_)
 have hc0:0<20∧20≤2000000:=by omega
 replace hS:=hS.ent (i:=6) (s':=.pv (.int .i64 ((20:Nat):Int))) rfl (.int rfl)
 refine loop_keep (σ:=Nat×List TxD) [0,1,2] [0] (fun s=>[(6,.pv (.int .i64 (s.1:Int)))]) (fun s=>[(1,.ob (.val v) (rowH 34 3 rTx s.2))]) (fun s=>0<s.1∧s.1≤2000000∧s.2.length=l.length∧Unl TxD.id s.2∧s.2.Perm l∧BlkR TxD.id s.2 s.1 0) (fun s=>l.length - s.1) ((20),(l2)) hS ⟨rfl,rfl,rfl,rfl,trivial⟩ ⟨rfl,rfl,trivial⟩ ⟨hc0.1,hc0.2,hn2,hu2,hp2,hB2⟩ ?_
 clear hS;intro s a w F hC hS
 obtain ⟨bs,l3⟩:=s
 try dsimp only at hC
 obtain ⟨F,hS⟩:=hS.nm [6,2,1,0] [1,0] rfl rfl
 try dsimp only at hS
 obtain ⟨hb0,hb1,hn3,hu3,hp3,hB3⟩:=hC
 have hwb:IntKind.wrap .i64 (2*(bs:Int))=((2*bs:Nat):Int):=by rw [wrap_i64 (by omega)];omega
 refine wp_seq (wp_seq ?_)
 refine region_z hS (qM rfl rfl (qM rfl rfl (qf (o_lss .t .t) r2 qz qZ))) hB [30,6,2,1,0] [1,0] rfl rfl ?_
 clear hS;intro a w F hS
 refine then_n ?_
 refine cond_b hS rfl (fun hc1=>?_) (fun hc1=>?_)
 ·skip
  have hlt:bs<l.length:=by simp at hc1;omega
  refine wp_skip (then_n (wp_block (wp_seq ?_)))
  refine region_z hS (qM rfl rfl (qf (o_mul qi .t) r1 qz (qf (oN qi) trivial qz (qN rfl rfl qZ)))) hB [8,7,6,2,1,0] [1,0] rfl rfl ?_
  clear hS;intro a w F hS
  refine then_n (wp_seq (wp_block ?_))
  have hc4:BlkL TxD.id l3 (2*bs) 0:=fun t ht=>by omega
  replace hS:=hS.ent (i:=7) (s':=.pv (.int .i64 ((0:Nat):Int))) rfl (.int rfl)
  replace hS:=hS.ent (i:=8) (s':=.pv (.int .i64 ((0+2*bs:Nat):Int))) rfl (.int (by rw [hwb];omega))
  refine loop_keep (σ:=Nat×List TxD) [0,1,2,6] [0] (fun s=>[(7,.pv (.int .i64 (s.1:Int))),(8,.pv (.int .i64 ((s.1+2*bs:Nat):Int)))]) (fun s=>[(1,.ob (.val v) (rowH 34 3 rTx s.2))]) (fun s=>s.1≤l.length∧(∃ t,s.1=t*(2*bs))∧s.2.length=l.length∧Unl TxD.id s.2∧s.2.Perm l∧BlkL TxD.id s.2 (2*bs) s.1∧BlkR TxD.id s.2 bs s.1) (fun s=>l.length - s.1) ((0),(l3)) hS ⟨rfl,rfl,rfl,rfl,rfl,rfl,trivial⟩ ⟨rfl,rfl,trivial⟩ ⟨Nat.zero_le _,⟨0,(Nat.zero_mul _).symm⟩,hn3,hu3,hp3,hc4,hB3⟩ ?_
  clear hS;intro s a w F hC hS
  obtain ⟨q,l4⟩:=s
  try dsimp only at hC
  obtain ⟨F,hS⟩:=hS.nm [8,7,6,2,1,0] [1,0] rfl rfl
  try dsimp only at hS
  obtain ⟨hql,⟨t,ht⟩,hn4,hu4,hp4,hB4,hC4⟩:=hC
  have hqw:IntKind.wrap .i64 ((q:Int)+(bs:Int))=((q+bs:Nat):Int):=by rw [wrap_i64 (by omega)];omega
  refine wp_seq (wp_seq ?_)
  refine region_z hS (qM rfl rfl (qM rfl rfl (qf (o_leq .t .t) r2 qz qZ))) hB [35,8,7,6,2,1,0] [1,0] rfl rfl ?_
  clear hS;intro a w F hS
  refine then_n ?_
  refine cond_b hS rfl (fun hc2=>?_) (fun hc2=>?_)
  ·skip
   have hlt2:q+2*bs≤l.length:=by simp at hc2;omega
   obtain ⟨l5,l5e⟩:∃ z,z=sortSeg TxD.id l4 q (q+2*bs):=⟨_,rfl⟩
   obtain ⟨hra,hrb⟩:=blkR_two (by omega) ht hC4 (show q+2*bs≤l4.length by omega)
   refine wp_skip (then_n (wp_block (wp_seq ?_)))
   refine region_z hS (qM rfl rfl (qM rfl rfl (qM rfl rfl (qM rfl rfl (qf (o_add .t .t) r2 qz (qM rfl rfl (qM rfl rfl (qf (o_callRow 1 (symT v f fn cps hf hbd hnn hw 4000000 l4 q (q+bs) (q+2*bs) (by omega) (by omega) (by omega) (by omega) (by omega) hu4 hra hrb) Tryz.func173 rfl (by kernel_rfl) (Args.five .t .t (.conv .t (.int hqw)) .t .t)) r5 r1 qZ)))))))) hB [8,7,6,2,1,0] [1,0] rfl rfl ?_
   clear hS;intro a w F hS
   rw [← l5e] at hS
   refine then_n (wp_seq ?_)
   refine region_z hS (qM rfl rfl (qN rfl rfl qZ)) hB [8,7,6,2,1,0] [1,0] rfl rfl ?_
   clear hS;intro a w F hS
   refine then_n ?_
   refine region_z hS (qM rfl rfl (qM rfl rfl (qf (o_mul qi .t) r1 qz (qf (o_add .t .t) r2 qz (qN rfl rfl qZ))))) hB [8,7,6,2,1,0] [1,0] rfl rfl ?_
   clear hS;intro a w F hS
   refine block_n (then_n ?_)
   have ht2:q+2*bs=(t+1)*(2*bs):=by rw [show (t+1)*(2*bs)=t*(2*bs)+2*bs from Nat.succ_mul t (2*bs),← ht]
   have hB5:BlkL TxD.id l5 (2*bs) (q+2*bs):=by rw [l5e,ht];exact blkL_next (by omega) (by rw [← ht];exact hB4) (by omega) hu4
   replace hS:=hS.ent (i:=8) (s':=.pv (.int .i64 ((q+2*bs+2*bs:Nat):Int))) rfl (.int (by rw [hwb,wrap_i64 (by omega)];omega))
   obtain ⟨F,hS⟩:=hS.nm [6,2,1,0,8,7] [0,1] rfl rfl
   exact ⟨((q+2*bs),(l5)),F,⟨by omega,⟨t+1,ht2⟩,by rw [l5e,sortSeg_len (by omega)];exact hn4,by rw [l5e];exact sortSeg_unl (by omega) hu4,by rw [l5e];exact (sortSeg_perm (by omega)).trans hp4,hB5,by rw [l5e];exact blkR_right (by omega) (by omega) hC4⟩,hS,by omega⟩
  have hlt2:l.length<q+2*bs:=by simp at hc2;omega
  refine wp_exit (then_x (then_x (block_x (then_n (wp_seq (wp_seq ?_))))))
  refine region_z hS (qM rfl rfl (qM rfl rfl (qf (o_add .t .t) r2 qz (qN rfl rfl qZ)))) hB [9,7,6,2,1,0] [1,0] rfl rfl ?_
  clear hS;intro a w F hS
  replace hS:=hS.ent (i:=9) (s':=.pv (.int .i64 ((q+bs:Nat):Int))) rfl (.int hqw)
  obtain ⟨F,hS⟩:=hS.nm [9,7,6,2,1,0] [1,0] rfl rfl
  refine then_n (wp_seq ?_)
  refine region_z hS (qM rfl rfl (qM rfl rfl (qf (o_lss .t .t) r2 qz qZ))) hB [54,9,7,6,2,1,0] [1,0] rfl rfl ?_
  clear hS;intro a w F hS
  refine then_n ?_
  refine cond_b hS rfl (fun hc3=>?_) (fun hc3=>?_)
  ·skip
   have hlt3:q+bs<l.length:=by simp at hc3;omega
   obtain ⟨l5,l5e⟩:∃ z,z=sortSeg TxD.id l4 q l.length:=⟨_,rfl⟩
   obtain ⟨hra,hrb⟩:=blkR_twoE (by omega) ht hC4 (show q+bs<l4.length by omega) (by omega)
   rw [hn4] at hrb
   have hn5:l5.length=l.length:=by rw [l5e,sortSeg_len (by omega)];exact hn4
   have hu5:Unl TxD.id l5:=by rw [l5e];exact sortSeg_unl (by omega) hu4
   have hp5:l5.Perm l:=by rw [l5e];exact (sortSeg_perm (by omega)).trans hp4
   have hB5:BlkR TxD.id l5 (2*bs) 0:=by rw [l5e,ht,← hn4];exact blk_last (by omega) (by rw [← ht];exact hB4) (by omega) (by omega) hu4
   refine region_z hS (qM rfl rfl (qM rfl rfl (qM rfl rfl (qM rfl rfl (qM rfl rfl (qf (o_callRow 1 (symT v f fn cps hf hbd hnn hw 4000000 l4 q (q+bs) l.length (by omega) (by omega) (by omega) (by omega) (by omega) hu4 hra hrb) Tryz.func173 rfl (by kernel_rfl) (Args.five .t .t .t .t .t)) r5 r1 qZ)))))) hB [6,2,1,0] [1,0] rfl rfl ?_
   clear hS;intro a w F hS
   rw [← l5e] at hS
   refine then_n ?_
   refine region_z hS (qM rfl rfl (qf (o_mul .t qi) r1 qz (qN rfl rfl qZ))) hB [6,2,1,0] [1,0] rfl rfl ?_
   clear hS;intro a w F hS
   refine block_n (then_n ?_)
   replace hS:=hS.ent (i:=6) (s':=.pv (.int .i64 ((2*bs:Nat):Int))) rfl (.int (by rw [wrap_i64 (by omega)];omega))
   obtain ⟨F,hS⟩:=hS.nm [2,1,0,6] [0,1] rfl rfl
   exact ⟨((2*bs),(l5)),F,⟨by omega,by omega,hn5,hu5,hp5,hB5⟩,hS,by omega⟩
  have hlt3:l.length≤q+bs:=by simp at hc3;omega
  obtain ⟨l5,l5e⟩:∃ z,z=l4:=⟨_,rfl⟩
  rw [← l5e] at hS
  have hn5:l5.length=l.length:=by rw [l5e];exact hn4
  have hu5:Unl TxD.id l5:=by rw [l5e];exact hu4
  have hp5:l5.Perm l:=by rw [l5e];exact hp4
  have hB5:BlkR TxD.id l5 (2*bs) 0:=by rw [l5e];exact blk_tail (t:=t) hb0 (by rw [← ht];exact hB4) (by rw [← ht];exact hC4) (by rw [← ht,hn4];exact hlt3)
  refine wp_skip (then_n ?_)
  refine region_z hS (qM rfl rfl (qf (o_mul .t qi) r1 qz (qN rfl rfl qZ))) hB [6,2,1,0] [1,0] rfl rfl ?_
  clear hS;intro a w F hS
  refine block_n (then_n ?_)
  replace hS:=hS.ent (i:=6) (s':=.pv (.int .i64 ((2*bs:Nat):Int))) rfl (.int (by rw [wrap_i64 (by omega)];omega))
  obtain ⟨F,hS⟩:=hS.nm [2,1,0,6] [0,1] rfl rfl
  exact ⟨((2*bs),(l5)),F,⟨by omega,by omega,hn5,hu5,hp5,hB5⟩,hS,by omega⟩
 have hg:sortZ TxD.id l=l3:=(sortZ_eq hp3 (blk_end hB3 (by simp at hc1;omega))).symm
 refine wp_exit (then_x (then_x (block_x ?_)))
 have hS:=hS.turn 1 rfl (r':=RS.hp (rowH 34 3 rTx (sortZ TxD.id l) v)) (fun _ _ _ _ h=>by rw [hg];exact h)
 refine ret_G1 hG hS rfl .nil .none rfl
theorem sortST (v : Value) (l : List TxD)  (hll : l.length ≤ 1000000) (hu : Unl TxD.id l) (f : FuncId) (fn : Func) (cps : List PV) (hf : Tryz.prog.funcs[f]? = some fn) (hbd : fn.body.isSome = true) (hnn : (fn.name == "runtime.NumGoroutine") = false) (hw : ∀ x y : TxD, FnP Tryz.prog f (.agg (rTx x) :: .agg (rTx y) :: cps) (.int .i64 (cmpZ (TxD.id x) (TxD.id y)))) : FnG Tryz.prog 109 1 [.is v, .clos f cps] [rowH 34 3 rTx l v] (.tup []) (fun _ => [rowH 34 3 rTx (sortZ TxD.id l) v]) := by
 refine FnG.mk Tryz.func109 rfl Tryz.ntmps109 rfl (by kernel_rfl) ?_
 intro B F0 a w F hB hG hS
 replace hS:=hS.turn 1 rfl (r':=.ob (.val v) (rowH 34 3 rTx l)) (fun _ _ _ _ h=>h)
 refine region_z hS (qM rfl rfl (qM rfl rfl (qf (o_len_row 1 Tryz.underlying27 .is) r1 r1 (qM rfl rfl (qf (o_callRow 1 (stabT v l hll hu f fn cps hf hbd hnn hw) Tryz.func146 rfl (by kernel_rfl) (Args.three .t .t .t)) r3 r1 qZ))))) hB [] [1,0] rfl rfl ?_
 clear hS;intro a w F hS
 have hg:sortZ TxD.id l=sortZ TxD.id l:=rfl
 have hS:=hS.turn 1 rfl (r':=RS.hp (rowH 34 3 rTx (sortZ TxD.id l) v)) (fun _ _ _ _ h=>by rw [hg];exact h)
 refine ret_G1 hG hS rfl .nil .none rfl
end Go.Proofs.YtcfgcpcakdknkaaGreat
