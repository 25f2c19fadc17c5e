/- Tx1,Tx3,Tx4,Tx5,Tx6,Tx7,Tx8,in one text. -/
import Derived.Test.YtcfgcpcakdknkaaGreatTx0
import Derived.Test.YtcfgcpcakdknkaaGreatDaX
import Derived.Test.YtcfgcpcakdknkaaGreatSrt
namespace Go.Proofs.YtcfgcpcakdknkaaGreat
open Go Go.Gm
set_option linter.unusedVariables false
set_option linter.unusedSimpArgs false
set_option maxHeartbeats 4000000
set_option maxRecDepth 8000
theorem cloneO_c (l:List OpD) (hl:l.length≤1000000):FnG Tryz.prog 114 1 [.sl rOp l] [.star []] (PV.one) (fun v=>[rowH 84 4 rOp l v]):=by
 refine FnG.mk Tryz.func114 rfl Tryz.ntmps114 rfl (by kernel_rfl) ?_
 intro B F0 a w F hB hG hS
 obtain ⟨F,hS⟩:=hS.nm [0] [0] rfl rfl
 refine wp_seq ?_
 refine region_z hS (qf (oN (.c rfl)) trivial qz qZ) hB [2,0] [0] rfl rfl ?_
 clear hS;intro a w F hS
 refine then_n (wp_seq (wp_seq ?_))
 refine region_z hS (qM rfl rfl (qf (o_eql_nilsl Tryz.underlying32 .t) r1 qz qZ)) hB [4,2,0] [0] rfl rfl ?_
 clear hS;intro a w F hS
 obtain ⟨β4,hβ4,hS⟩:=hS.pickBool 4 rfl
 obtain ⟨F,hS⟩:=hS.nm [4,2,0] [0] rfl rfl
 refine then_n ?_
 refine cond_b hS rfl (fun hc0=>?_) (fun hc0=>?_)
 ·skip
  have hg:l = []:=hβ4 hc0
  refine wp_seq ?_
  refine region_z hS (qf (oN (.c rfl)) trivial qz qZ) hB [2,0] [0] rfl rfl ?_
  clear hS;intro a w F hS
  refine then_n (wp_ret (then_r ?_))
  have hS:=hS.fresh 1 rfl
  have hS:=hS.turn 1 rfl (nilRow (T:=84) (sz:=4) (R:=rOp))
  have hS:=hS.turn 1 rfl (r':=RS.hp (rowH 84 4 rOp l (.slice none 0 0))) (fun _ _ _ _ h=>by rw [hg];exact h)
  refine ret_N1 (h':=fun v=>rowH 84 4 rOp l v) hG hS rfl (.tmp rfl .nil) (.one .one) rfl
 have hg:l = [] ++ l:=rfl
 refine wp_skip (then_n (wp_seq ?_))
 refine region_q hS (qf (o_buildSlice0 (R:=rOp) (sz:=4) 101 Tryz.underlying32 (by kernel_rfl)) trivial qz (qM rfl rfl (qf (o_append (sz:=4) (bs:=32) 101 (.mk' Tryz.underlying32 (by kernel_rfl) (by kernel_rfl)) (by intro x;rfl) .same (.sl .t) (by simp only [List.length_append,List.length_nil];omega) (by decide)) ⟨rfl,rfl,trivial⟩ ⟨rfl,trivial⟩ (qN rfl rfl qZ)))) hB ?_
 clear hS;intro a w F hS
 replace hS:=hS.sub
 obtain ⟨F,hS⟩:=hS.nm [2] [101,0] rfl rfl
 try dsimp only [RS.sub,SF.sub,CF.sub,csub,Anc.sub,List.map,stCells,xL,xM,Nat.reduceAdd,xD,xE,xT,xU,xC,xN,zCF,rOp] at hS
 generalize Act.tau a 7=v7 at hS
 refine then_n (wp_ret ?_)
 obtain ⟨F,hS⟩:=hS.rename 101 1 rfl rfl
 have hS:=hS.turn 1 rfl (r':=RS.hp (rowH 84 4 rOp l v7)) (fun _ _ _ _ h=>by rw [hg];exact h)
 refine ret_N1 (h':=fun v=>rowH 84 4 rOp l v) hG hS rfl (.tmp rfl .nil) (.one .one) rfl
end Go.Proofs.YtcfgcpcakdknkaaGreat
namespace Go.Proofs.YtcfgcpcakdknkaaGreat
open Go Go.Gm
set_option linter.unusedVariables false
set_option linter.unusedSimpArgs false
set_option maxHeartbeats 4000000
set_option maxRecDepth 8000
theorem tkeys_c (t : TxD) (hl : t.ops.length ≤ 1000000) (p : OpD → Bool) (f : FuncId) (fn : Func) (cps : List PV) (hf : Tryz.prog.funcs[f]? = some fn) (hb : fn.body.isSome = true) (hnn : (fn.name == "runtime.NumGoroutine") = false) (hw : ∀ x, FnP Tryz.prog f (.agg (rOp x) :: cps) (.bool (p x))) : FnP Tryz.prog 119 [.agg (rTx t), .clos f cps] (.sl rInt (keysL ((t.ops.filter p).map OpD.key))) := by
 refine FnP.mk Tryz.func119 rfl Tryz.ntmps119 rfl ?_
 intro B a w F hB hfr hS
 refine wp_seq ?_
 refine region_q hS (qf (oX 101 (.conv .t .agg)) r1 qz (qf (oN (.c rfl)) trivial qz qZ)) hB ?_
 clear hS;intro a w F hS
 replace hS:=hS.sub
 obtain ⟨F,hS⟩:=hS.nm [4,2,1] [101,0] rfl rfl
 try dsimp only [RS.sub,SF.sub,CF.sub,csub,Anc.sub,List.map,zCF,rInt,rOp,rTx] at hS
 generalize Act.tau a 2=v2 at hS
 refine then_n (wp_seq ?_)
 refine region_z hS (qf (oN (.c rfl)) trivial qz qZ) hB [5,4,2,1] [101,0] rfl rfl ?_
 clear hS;intro a w F hS
 refine then_n (wp_seq (wp_seq ?_))
 refine region_z hS (qf (oF 2 101 .is) r1 r1 (qf (oL false 1 101 .adr) r1 r1 (qf (o_len_sl Tryz.underlying32 .t) r1 qz (qf (oM qi) trivial qz qZ)))) hB [11,10,9,5,4,1] [101,0] rfl rfl ?_
 clear hS;intro a w F hS
 refine then_n (wp_block ?_)
 replace hS:=hS.fresh 50 rfl
 replace hS:=hS.turn 50 rfl (nilRow (T:=3) (sz:=1) (R:=rInt))
 refine loop_keep (σ:=(Nat)×(Value)×(List Int)) [1,4,9,10] [0,101] (fun s=>[(11,.pv (.int .i64 (s.1:Int))),(5,.pv (.is s.2.1))]) (fun s=>[(50,.ob (.val s.2.1) (rowH 3 1 rInt s.2.2))]) (fun s=>s.1≤t.ops.length∧(s.2.2=(((t.ops.take s.1).filter p).map OpD.key))) (fun s=>t.ops.length - s.1) ((0),(.slice none 0 0),([])) hS ⟨rfl,rfl,rfl,rfl,rfl,rfl,trivial⟩ ⟨rfl,rfl,rfl,trivial⟩ ⟨Nat.zero_le _,rfl⟩ ?_
 clear hS;intro s a w F hC hS
 obtain ⟨i,v,out⟩:=s
 try dsimp only at hC
 obtain ⟨F,hS⟩:=hS.nm [11,10,9,5,4,1] [101,50,0] rfl rfl
 try dsimp only at hS
 obtain ⟨hi,hq⟩:=hC
 have hol:out.length≤i:=by rw [hq,List.length_map];exact Nat.le_trans (List.length_filter_le _ _) (by rw [List.length_take];omega)
 refine wp_seq ?_
 refine region_z hS (qf (o_lss .t .t) r2 qz qZ) hB [12,11,10,9,5,4,1] [101,50,0] rfl rfl ?_
 clear hS;intro a w F hS
 refine then_n (wp_seq ?_)
 refine cond_b hS rfl (fun hc0=>?_) (fun hc0=>?_)
 ·skip
  have hil:i<t.ops.length:=by simp at hc0;omega
  refine wp_skip (then_n (wp_seq (wp_block (wp_seq ?_))))
  refine region_q hS (qf (o_indexAddr_sl (sz:=4) (.mk Tryz.underlying32 (by kernel_rfl)) (by intro x;rfl) .t .t (by omega) (by omega)) r2 qz (qf (oR true 4 .t) r1 qz (qf (oH [.bool false,.int .i64 0,.int .i64 0,.int .i64 0] 102) trivial qz (qf (oA 4 102 .same .t) r2 r1 qZ)))) hB ?_
  clear hS;intro a w F hS
  replace hS:=hS.sub
  obtain ⟨F,hS⟩:=hS.nm [14,13,12,11,10,9,7,5,4,1] [102,101,50,0] rfl rfl
  try dsimp only [RS.sub,SF.sub,CF.sub,csub,Anc.sub,List.map,stCells,xL,xM,Nat.reduceAdd,xD,xE,xT,xU,xC,xN,zCF,ldSF,rInt,rOp,rTx] at hS
  generalize Act.tau a 7=v7 at hS
  try simp only [Int.toNat_natCast] at hS
  refine then_n (wp_seq ?_)
  refine region_z hS (qM rfl rfl (qf (oL true 4 102 .is) r1 r1 (qf (o_callClosP (avs:=[.agg (rOp (Go.Gm.nth t.ops i))]) .t (hw (Go.Gm.nth t.ops i)) hf hb hnn (Args.one (.pagg .t))) r2 qz qZ))) hB [17,16,15,14,13,12,11,10,9,7,5,4,1] [102,101,50,0] rfl rfl ?_
  clear hS;intro a w F hS
  refine then_n ?_
  refine cond_b hS rfl (fun hc1=>?_) (fun hc1=>?_)
  ·skip
   have hBq:p (Go.Gm.nth t.ops i)=true:=by simpa using hc1
   refine region_q hS (qM rfl rfl (qf (oF 1 102 .is) r1 r1 (qf (oL false 1 102 .adr) r1 r1 (qf (o_buildSliceE (sz:=1) (zs:=[.int .i64 0]) (r:=[(0,.tmp 20)]) (l:=[_]) Tryz.underlying35 (by kernel_rfl) (by kernel_rfl) (by kernel_rfl) (by kernel_rfl) rfl rfl (.one rfl .t one_int (by kernel_rfl) .nil) rfl) r1 qz (qf (o_append (sz:=1) (bs:=8) 50 (.mk' Tryz.underlying35 (by kernel_rfl) (by kernel_rfl)) (by intro x;rfl) .is (.arr (l':=[(Go.Gm.nth t.ops i).key]) .t) (by simp only [List.length_append,List.length_cons,List.length_nil,List.length_take,List.length_drop];omega) (by decide)) ⟨rfl,rfl,trivial⟩ ⟨rfl,trivial⟩ (qN rfl rfl qZ)))))) hB ?_
   clear hS;intro a w F hS
   replace hS:=hS.sub
   obtain ⟨F,hS⟩:=hS.nm [22,21,20,19,18,17,16,15,14,13,12,11,10,9,7,5,4,1] [102,101,50,0] rfl rfl
   try dsimp only [RS.sub,SF.sub,CF.sub,csub,Anc.sub,List.map,stCells,xL,xM,Nat.reduceAdd,xD,xE,xT,xU,xC,xN,zCF,ldSF,rInt,rOp,rTx] at hS
   generalize Act.tau a 22=v22 at hS
   refine block_n (then_n ?_)
   refine region_z hS (qf (o_add .t qi) r1 qz (qM rfl rfl qZ)) hB [23,22,21,20,19,18,17,16,15,14,13,12,11,10,9,7,5,4,1] [102,101,50,0] rfl rfl ?_
   clear hS;intro a w F hS
   refine then_n ?_
   replace hS:=hS.ent (i:=11) (s':=.pv (.int .i64 ((i+1:Nat):Int))) rfl (.int (wrap_succ (by omega)))
   obtain ⟨F,hS⟩:=hS.nm [10,9,4,1,5,11] [101,0,50] rfl rfl
   exact ⟨((i+1),_,_),F,⟨by omega,(by rw [take_nth hil,List.filter_append,List.map_append,← hq];simp [hBq])⟩,hS,by omega⟩
  have hBq:p (Go.Gm.nth t.ops i)=false:=by simpa using hc1
  refine wp_skip (block_n (then_n ?_))
  refine region_z hS (qf (o_add .t qi) r1 qz (qM rfl rfl qZ)) hB [23,17,16,15,14,13,12,11,10,9,7,5,4,1] [102,101,50,0] rfl rfl ?_
  clear hS;intro a w F hS
  refine then_n ?_
  replace hS:=hS.ent (i:=11) (s':=.pv (.int .i64 ((i+1:Nat):Int))) rfl (.int (wrap_succ (by omega)))
  obtain ⟨F,hS⟩:=hS.nm [10,9,4,1,5,11] [101,0,50] rfl rfl
  exact ⟨((i+1),_,_),F,⟨by omega,(by rw [take_nth hil,List.filter_append,List.map_append,← hq];simp [hBq])⟩,hS,by omega⟩
 have hil:i=t.ops.length:=by simp at hc0;omega
 refine wp_exit (then_x (then_x (block_x (then_n (wp_seq ?_)))))
 refine region_z hS (qM rfl rfl (qf (o_callRow 50 (sort_c _ out (by omega)) Tryz.func82 rfl (by kernel_rfl) (Args.one .t)) r1 r1 qZ)) hB [5,4] [101,50,0] rfl rfl ?_
 clear hS;intro a w F hS
 refine then_n (wp_seq ?_)
 refine region_q hS (qM rfl rfl (qf (o_callRowN 50 (compI_c _ _ (by rw [List.length_mergeSort];omega)) Tryz.func83 rfl (by kernel_rfl) (Args.one .t) pvOne1) r1 r1 (qN rfl rfl qZ))) hB ?_
 clear hS;intro a w F hS
 replace hS:=hS.sub
 obtain ⟨F,hS⟩:=hS.nm [4] [101,50,0] rfl rfl
 try dsimp only [RS.sub,SF.sub,CF.sub,csub,Anc.sub,List.map,rInt,rOp,rTx] at hS
 generalize Act.tau a 27=v27 at hS
 refine then_n (wp_ret ?_)
 obtain ⟨F,hS⟩:=hS.give 50 4 rfl rfl
 refine ret_P hfr hS rfl (.tmp rfl .nil) (.one (.sl (by rw [compactG_L,keys_sorted,hq,hil,List.take_length])))
end Go.Proofs.YtcfgcpcakdknkaaGreat
namespace Go.Proofs.YtcfgcpcakdknkaaGreat
open Go Go.Gm
set_option linter.unusedVariables false
set_option linter.unusedSimpArgs false
set_option maxHeartbeats 4000000
set_option maxRecDepth 8000
theorem keysL_len (l:List Int):(keysL l).length≤l.length:=by
 have key:∀ (l acc:List Int),(l.foldl putI acc).length≤acc.length+l.length:=fun l=>by
   induction l with
   | nil=>intro acc;simp
   | cons x l ih=>
     intro acc
     have h1:=ih (putI acc x)
     have h2:(putI acc x).length≤acc.length+1:=putIR_len acc false
     rw [List.foldl_cons,List.length_cons];omega
 have:=key l []
 simpa [keysL] using this
theorem rkeys_c (t:TxD) (all:Bool) (hl:t.ops.length≤1000000):FnP Tryz.prog 130 [.agg (rTx t),.bool all] (.sl rInt (keysL ((t.ops.filter fun o=>all || !o.read).map OpD.key))):=by
 refine FnP.mk Tryz.func130 rfl Tryz.ntmps130 rfl ?_
 intro B a w F hB hfr hS
 refine wp_seq ?_
 refine region_q hS (qf (oX 101 (.conv .t .agg)) r1 qz (qf (oN (.c rfl)) trivial qz qZ)) hB ?_
 clear hS;intro a w F hS
 replace hS:=hS.sub
 obtain ⟨F,hS⟩:=hS.nm [4,2,1] [101,0] rfl rfl
 try dsimp only [RS.sub,SF.sub,CF.sub,csub,Anc.sub,List.map,zCF,rInt,rOp,rTx] at hS
 generalize Act.tau a 2=v2 at hS
 refine then_n (wp_seq ?_)
 refine region_z hS (qf (oN (.c rfl)) trivial qz qZ) hB [5,4,2,1] [101,0] rfl rfl ?_
 clear hS;intro a w F hS
 refine then_n (wp_seq (wp_seq ?_))
 refine region_z hS (qf (oF 2 101 .is) r1 r1 (qf (oL false 1 101 .adr) r1 r1 (qf (o_len_sl Tryz.underlying32 .t) r1 qz (qf (oM qi) trivial qz qZ)))) hB [11,10,9,5,4,1] [0] rfl rfl ?_
 clear hS;intro a w F hS
 refine then_n (wp_block ?_)
 replace hS:=hS.ent (i:=5) (s':=.pv (.sl rInt [])) rfl (.nilSl)
 refine loop_keep (σ:=(Nat)) [1,4,9,10] [0] (fun s=>[(11,.pv (.int .i64 (s:Int))),(5,.pv (.sl rInt (keysL (((t.ops.take s).filter fun o=>all || !o.read).map OpD.key))))]) (fun s=>[]) (fun s=>s≤t.ops.length∧(True)) (fun s=>t.ops.length - s) (0) hS ⟨rfl,rfl,rfl,rfl,rfl,rfl,trivial⟩ ⟨rfl,trivial⟩ ⟨Nat.zero_le _,trivial⟩ ?_
 clear hS;intro i a w F hC hS
 try dsimp only at hC
 obtain ⟨F,hS⟩:=hS.nm [11,10,9,5,4,1] [0] rfl rfl
 try dsimp only at hS
 obtain ⟨hi,hq⟩:=hC
 have hol:(keysL (((t.ops.take i).filter fun o=>all || !o.read).map OpD.key)).length≤i:=by
   refine Nat.le_trans (keysL_len _) ?_
   rw [List.length_map];exact Nat.le_trans (List.length_filter_le _ _) (by rw [List.length_take];omega)
 refine wp_seq ?_
 refine region_z hS (qf (o_lss .t .t) r2 qz qZ) hB [12,11,10,9,5,4,1] [0] rfl rfl ?_
 clear hS;intro a w F hS
 refine then_n (wp_seq ?_)
 refine cond_b hS rfl (fun hc0=>?_) (fun hc0=>?_)
 ·skip
  have hil:i<t.ops.length:=by simp at hc0;omega
  refine wp_skip (then_n (wp_seq (wp_block (wp_seq ?_))))
  refine region_q hS (qf (o_indexAddr_sl (sz:=4) (.mk Tryz.underlying32 (by kernel_rfl)) (by intro x;rfl) .t .t (by omega) (by omega)) r2 qz (qf (oR true 4 .t) r1 qz (qf (oH [.bool false,.int .i64 0,.int .i64 0,.int .i64 0] 102) trivial qz (qf (oA 4 102 .same .t) r2 r1 qZ)))) hB ?_
  clear hS;intro a w F hS
  replace hS:=hS.sub
  obtain ⟨F,hS⟩:=hS.nm [14,13,12,11,10,9,7,5,4,1] [102,0] rfl rfl
  try dsimp only [RS.sub,SF.sub,CF.sub,csub,Anc.sub,List.map,stCells,xL,xM,Nat.reduceAdd,xD,xE,xT,xU,xC,xN,zCF,ldSF,rInt,rOp,rTx] at hS
  generalize Act.tau a 7=v7 at hS
  try simp only [Int.toNat_natCast] at hS
  refine then_n (wp_seq ?_)
  refine region_z hS (qM rfl rfl (qM rfl rfl (qk rfl (fun h=>oF 0 102 .is) r2 r1 (qk rfl (fun h=>oL false 1 102 (.w h .adr)) r2 r1 (qk rfl (fun h=>o_not (.w h)) r2 qz (qf (o_or2 .t .t) r2 qz qZ)))))) hB [20,19,18,17,16,15,14,13,12,11,10,9,7,5,4,1] [102,0] rfl rfl ?_
  clear hS;intro a w F hS
  refine then_n ?_
  refine cond_b hS rfl (fun hc1=>?_) (fun hc1=>?_)
  ·skip
   have hBq:(all || !(Go.Gm.nth t.ops i).read)=true:=by simpa using hc1
   refine region_z hS (qM rfl rfl (qf (oF 1 102 .is) r1 r1 (qf (oL false 1 102 .adr) r1 r1 (qf (oP (put10_c _ (Go.Gm.nth t.ops i).key (by omega)) Tryz.func124 (Args.two .t .t)) r2 qz (qN rfl rfl qZ))))) hB [24,23,22,21,20,19,18,17,16,15,14,13,12,11,10,9,7,5,4,1] [102,0] rfl rfl ?_
   clear hS;intro a w F hS
   refine block_n (then_n ?_)
   refine region_z hS (qf (o_add .t qi) r1 qz (qM rfl rfl qZ)) hB [25,24,23,22,21,20,19,18,17,16,15,14,13,12,11,10,9,7,5,4,1] [102,0] rfl rfl ?_
   clear hS;intro a w F hS
   refine then_n ?_
   replace hS:=hS.ent (i:=11) (s':=.pv (.int .i64 ((i+1:Nat):Int))) rfl (.int (wrap_succ (by omega)))
   replace hS:=hS.ent (i:=5) (s':=.pv (.sl rInt (keysL (((t.ops.take (i+1)).filter fun o=>all || !o.read).map OpD.key)))) rfl ((.sl (by rw [take_nth hil,List.filter_append,List.map_append];simp [hBq,keysL])))
   obtain ⟨F,hS⟩:=hS.nm [10,9,4,1,5,11] [0] rfl rfl
   exact ⟨(i+1),F,⟨by omega,trivial⟩,hS,by omega⟩
  have hBq:(all || !(Go.Gm.nth t.ops i).read)=false:=by simpa using hc1
  refine wp_skip (block_n (then_n ?_))
  refine region_z hS (qf (o_add .t qi) r1 qz (qM rfl rfl qZ)) hB [25,20,19,18,17,16,15,14,13,12,11,10,9,7,5,4,1] [102,0] rfl rfl ?_
  clear hS;intro a w F hS
  refine then_n ?_
  replace hS:=hS.ent (i:=11) (s':=.pv (.int .i64 ((i+1:Nat):Int))) rfl (.int (wrap_succ (by omega)))
  replace hS:=hS.ent (i:=5) (s':=.pv (.sl rInt (keysL (((t.ops.take (i+1)).filter fun o=>all || !o.read).map OpD.key)))) rfl ((.sl (by rw [take_nth hil,List.filter_append,List.map_append];simp [hBq,keysL])))
  obtain ⟨F,hS⟩:=hS.nm [10,9,4,1,5,11] [0] rfl rfl
  exact ⟨(i+1),F,⟨by omega,trivial⟩,hS,by omega⟩
 have hil:i=t.ops.length:=by simp at hc0;omega
 refine wp_exit (then_x (then_x (block_x (then_n (wp_seq ?_)))))
 refine region_z hS (qM rfl rfl (qN rfl rfl qZ)) hB [4] [0] rfl rfl ?_
 clear hS;intro a w F hS
 refine then_n (wp_ret ?_)
 refine ret_P hfr hS rfl (.tmp rfl .nil) (.one (.sl (by rw [hil,List.take_length])))
end Go.Proofs.YtcfgcpcakdknkaaGreat
namespace Go.Proofs.YtcfgcpcakdknkaaGreat
open Go Go.Gm
set_option linter.unusedVariables false
set_option linter.unusedSimpArgs false
set_option maxHeartbeats 4000000
set_option maxRecDepth 8000
theorem Ent.fnClos {f:FuncId} : Ent (.pv (.is (.func (.func f) #[] #[]))) (.pv (.clos f [])):=fun τ w y v h=>⟨[],h.1,trivial⟩
theorem keys1_c (o:OpD):FnP Tryz.prog 171 [.agg (rOp o)] (.bool (!o.read)):=by
 refine FnP.mk Tryz.func171 rfl Tryz.ntmps171 rfl ?_
 intro B a w F hB hfr hS
 refine wp_seq ?_
 refine region_q hS (qf (oX 101 (.conv .t .agg)) r1 qz (qf (oN .cb) trivial qz qZ)) hB ?_
 clear hS;intro a w F hS
 replace hS:=hS.sub
 obtain ⟨F,hS⟩:=hS.nm [2,1] [101,0] rfl rfl
 try dsimp only [RS.sub,SF.sub,CF.sub,csub,Anc.sub,List.map,zCF,rOp] at hS
 generalize Act.tau a 1=v1 at hS
 refine then_n (wp_seq ?_)
 refine region_z hS (qf (oF 0 101 .is) r1 r1 (qf (oL false 1 101 .adr) r1 r1 (qf (o_not .t) r1 qz (qN rfl rfl qZ)))) hB [2] [0] rfl rfl ?_
 clear hS;intro a w F hS
 refine then_n (wp_ret ?_)
 refine ret_P hfr hS rfl (.tmp rfl .nil) (.one (.bool rfl))
theorem tKeys_c (t:TxD) (hl:t.ops.length≤1000000):FnP Tryz.prog 143 [.agg (rTx t)] (.sl rInt (keysL ((t.ops.filter fun o=>!o.read).map OpD.key))):=by
 refine FnP.mk Tryz.func143 rfl Tryz.ntmps143 rfl ?_
 intro B a w F hB hfr hS
 refine wp_seq ?_
 refine region_q hS (qf (oX 101 (.conv .t .agg)) r1 qz (qf (oN (.c rfl)) trivial qz qZ)) hB ?_
 clear hS;intro a w F hS
 replace hS:=hS.sub
 obtain ⟨F,hS⟩:=hS.nm [2,1] [101,0] rfl rfl
 try dsimp only [RS.sub,SF.sub,CF.sub,csub,Anc.sub,List.map,zCF,rTx,rInt] at hS
 generalize Act.tau a 1=v1 at hS
 refine then_n (wp_seq ?_)
 refine region_z hS (qf (oL true 3 101 .is) r1 r1 (qf (oP (tkeys_c t hl (fun o=>!o.read) 171 Tryz.f171 [] Tryz.func171 rfl (by kernel_rfl) (fun o=>keys1_c o)) Tryz.func119 (Args.two (.pagg .t) (.conv .f (Ent.fnClos)))) r1 qz (qN rfl rfl qZ))) hB [2] [0] rfl rfl ?_
 clear hS;intro a w F hS
 refine then_n (wp_ret ?_)
 refine ret_P hfr hS rfl (.tmp rfl .nil) (.one (.sl rfl))
theorem touched1_c (o:OpD):FnP Tryz.prog 120 [.agg (rOp o)] (.bool (true)):=by
 refine FnP.mk Tryz.func120 rfl Tryz.ntmps120 rfl ?_
 intro B a w F hB hfr hS
 refine wp_seq ?_
 refine region_q hS (qf (oX 101 (.conv .t .agg)) r1 qz (qf (oN .cb) trivial qz qZ)) hB ?_
 clear hS;intro a w F hS
 replace hS:=hS.sub
 obtain ⟨F,hS⟩:=hS.nm [2] [0] rfl rfl
 try dsimp only [RS.sub,SF.sub,CF.sub,csub,Anc.sub,List.map,zCF,rOp] at hS
 generalize Act.tau a 1=v1 at hS
 refine then_n (wp_seq ?_)
 refine region_z hS (qf (oN .cb) trivial qz qZ) hB [2] [0] rfl rfl ?_
 clear hS;intro a w F hS
 refine then_n (wp_ret ?_)
 refine ret_P hfr hS rfl (.tmp rfl .nil) (.one (.bool rfl))
theorem tTouched_c (t:TxD) (hl:t.ops.length≤1000000):FnP Tryz.prog 80 [.agg (rTx t)] (.sl rInt (keysL ((t.ops.filter fun o=>true).map OpD.key))):=by
 refine FnP.mk Tryz.func80 rfl Tryz.ntmps80 rfl ?_
 intro B a w F hB hfr hS
 refine wp_seq ?_
 refine region_q hS (qf (oX 101 (.conv .t .agg)) r1 qz (qf (oN (.c rfl)) trivial qz qZ)) hB ?_
 clear hS;intro a w F hS
 replace hS:=hS.sub
 obtain ⟨F,hS⟩:=hS.nm [2,1] [101,0] rfl rfl
 try dsimp only [RS.sub,SF.sub,CF.sub,csub,Anc.sub,List.map,zCF,rTx,rInt] at hS
 generalize Act.tau a 1=v1 at hS
 refine then_n (wp_seq ?_)
 refine region_z hS (qf (oL true 3 101 .is) r1 r1 (qf (oP (tkeys_c t hl (fun o=>true) 120 Tryz.f120 [] Tryz.func120 rfl (by kernel_rfl) (fun o=>touched1_c o)) Tryz.func119 (Args.two (.pagg .t) (.conv .f (Ent.fnClos)))) r1 qz (qN rfl rfl qZ))) hB [2] [0] rfl rfl ?_
 clear hS;intro a w F hS
 refine then_n (wp_ret ?_)
 refine ret_P hfr hS rfl (.tmp rfl .nil) (.one (.sl rfl))
end Go.Proofs.YtcfgcpcakdknkaaGreat
namespace Go.Proofs.YtcfgcpcakdknkaaGreat
open Go Go.Gm
set_option linter.unusedVariables false
set_option linter.unusedSimpArgs false
set_option maxHeartbeats 4000000
set_option maxRecDepth 8000
theorem twrites_c (t:TxD) (n:Int) (hl:t.ops.length≤1000000):FnP Tryz.prog 170 [.agg (rTx t),.int .i64 n] (.int .i64 (((t.ops.filter fun o=>!o.read && decide (o.key=n)).length:Nat):Int)):=by
 refine FnP.mk Tryz.func170 rfl Tryz.ntmps170 rfl ?_
 intro B a w F hB hfr hS
 have hll:t.ops.length≤1000000:=hl
 refine wp_seq ?_
 refine region_q hS (qf (oX 101 (.conv .t .agg)) r1 qz (qf (oN qi) trivial qz qZ)) hB ?_
 clear hS;intro a w F hS
 replace hS:=hS.sub
 obtain ⟨F,hS⟩:=hS.nm [4,2,1] [101,0] rfl rfl
 try dsimp only [RS.sub,SF.sub,CF.sub,csub,Anc.sub,List.map,zCF,rInt,rOp,rTx] at hS
 generalize Act.tau a 2=v2 at hS
 refine then_n (wp_seq ?_)
 refine region_z hS (qf (oN qi) trivial qz qZ) hB [5,4,2,1] [101,0] rfl rfl ?_
 clear hS;intro a w F hS
 refine then_n (wp_seq (wp_seq ?_))
 refine region_z hS (qf (oF 2 101 .is) r1 r1 (qf (oL false 1 101 .adr) r1 r1 (qf (o_len_sl Tryz.underlying32 .t) r1 qz (qf (oM qi) trivial qz qZ)))) hB [11,10,9,5,4,1] [0] rfl rfl ?_
 clear hS;intro a w F hS
 refine then_n (wp_block ?_)
 refine loop_keep (σ:=(Nat)) [1,4,9,10] [0] (fun s=>[(11,.pv (.int .i64 (s:Int))),(5,.pv (.int .i64 ((((t.ops.take s).filter fun o=>!o.read && decide (o.key=n)).length:Nat):Int)))]) (fun s=>[]) (fun s=>s≤t.ops.length∧(True)) (fun s=>t.ops.length - s) (0) hS ⟨rfl,rfl,rfl,rfl,rfl,rfl,trivial⟩ ⟨rfl,trivial⟩ ⟨Nat.zero_le _,trivial⟩ ?_
 clear hS;intro i a w F hC hS
 try dsimp only at hC
 obtain ⟨F,hS⟩:=hS.nm [11,10,9,5,4,1] [0] rfl rfl
 try dsimp only at hS
 obtain ⟨hi,hq⟩:=hC
 refine wp_seq ?_
 refine region_z hS (qf (o_lss .t .t) r2 qz qZ) hB [12,11,10,9,5,4,1] [0] rfl rfl ?_
 clear hS;intro a w F hS
 refine then_n (wp_seq ?_)
 refine cond_b hS rfl (fun hc0=>?_) (fun hc0=>?_)
 ·skip
  have hil:i<t.ops.length:=by simp at hc0;omega
  refine wp_skip (then_n (wp_seq (wp_block (wp_seq ?_))))
  refine region_q hS (qf (o_indexAddr_sl (sz:=4) (.mk Tryz.underlying32 (by kernel_rfl)) (by intro x;rfl) .t .t (by omega) (by omega)) r2 qz (qf (oR true 4 .t) r1 qz (qf (oH [.bool false,.int .i64 0,.int .i64 0,.int .i64 0] 102) trivial qz (qf (oA 4 102 .same .t) r2 r1 qZ)))) hB ?_
  clear hS;intro a w F hS
  replace hS:=hS.sub
  obtain ⟨F,hS⟩:=hS.nm [14,13,12,11,10,9,7,5,4,1] [102,0] rfl rfl
  try dsimp only [RS.sub,SF.sub,CF.sub,csub,Anc.sub,List.map,stCells,xL,xM,Nat.reduceAdd,xD,xE,xT,xU,xC,xN,zCF,ldSF,rInt,rOp,rTx] at hS
  generalize Act.tau a 7=v7 at hS
  try simp only [Int.toNat_natCast] at hS
  refine then_n (wp_seq ?_)
  refine region_z hS (qf (oF 0 102 .is) r1 r1 (qf (oL false 1 102 .adr) r1 r1 (qf (o_not .t) r1 qz (qM rfl rfl (qk rfl (fun h=>oF 1 102 .is) r2 r1 (qk rfl (fun h=>oL false 1 102 (.w h .adr)) r2 r1 (qm rfl rfl rfl rfl (qk rfl (fun h=>o_eql (.w h) (.w h)) r3 qz (qf (o_and2 .t .t) r2 qz qZ))))))))) hB [23,22,21,20,19,18,17,16,15,14,13,12,11,10,9,7,5,4,1] [102,0] rfl rfl ?_
  clear hS;intro a w F hS
  refine then_n ?_
  refine cond_b hS rfl (fun hc1=>?_) (fun hc1=>?_)
  ·skip
   have hstp:((t.ops.take (i+1)).filter fun o=>!o.read && decide (o.key=n))=((t.ops.take i).filter fun o=>!o.read && decide (o.key=n))++(if (!(Go.Gm.nth t.ops i).read && decide ((Go.Gm.nth t.ops i).key=n))=true then [(Go.Gm.nth t.ops i)] else []):=by rw [take_nth hil,List.filter_append];simp only [List.filter_cons,List.filter_nil]
   have hle:((t.ops.take i).filter fun o=>!o.read && decide (o.key=n)).length≤i:=Nat.le_trans (List.length_filter_le _ _) (by rw [List.length_take];omega)
   have hBq:(!(Go.Gm.nth t.ops i).read && decide ((Go.Gm.nth t.ops i).key=n))=true:=hc1
   have hcc:IntKind.wrap .i64 (((((t.ops.take i).filter fun o=>!o.read && decide (o.key=n)).length:Nat):Int)+1)=((((t.ops.take (i+1)).filter fun o=>!o.read && decide (o.key=n)).length:Nat):Int):=by rw [hstp,if_pos hBq,List.length_append,wrap_i64 (by omega)];simp
   refine region_z hS (qM rfl rfl (qf (o_add .t qi) r1 qz (qN rfl rfl qZ))) hB [25,24,23,22,21,20,19,18,17,16,15,14,13,12,11,10,9,7,5,4,1] [102,0] rfl rfl ?_
   clear hS;intro a w F hS
   refine block_n (then_n ?_)
   refine region_z hS (qf (o_add .t qi) r1 qz (qM rfl rfl qZ)) hB [26,25,24,23,22,21,20,19,18,17,16,15,14,13,12,11,10,9,7,5,4,1] [102,0] rfl rfl ?_
   clear hS;intro a w F hS
   refine then_n ?_
   replace hS:=hS.ent (i:=11) (s':=.pv (.int .i64 ((i+1:Nat):Int))) rfl (.int (wrap_succ (by omega)))
   replace hS:=hS.ent (i:=5) (s':=.pv (.int .i64 ((((t.ops.take (i+1)).filter fun o=>!o.read && decide (o.key=n)).length:Nat):Int))) rfl (.int hcc)
   obtain ⟨F,hS⟩:=hS.nm [10,9,4,1,5,11] [0] rfl rfl
   exact ⟨(i+1),F,⟨by omega,trivial⟩,hS,by omega⟩
  have hstp:((t.ops.take (i+1)).filter fun o=>!o.read && decide (o.key=n))=((t.ops.take i).filter fun o=>!o.read && decide (o.key=n))++(if (!(Go.Gm.nth t.ops i).read && decide ((Go.Gm.nth t.ops i).key=n))=true then [(Go.Gm.nth t.ops i)] else []):=by rw [take_nth hil,List.filter_append];simp only [List.filter_cons,List.filter_nil]
  have hle:((t.ops.take i).filter fun o=>!o.read && decide (o.key=n)).length≤i:=Nat.le_trans (List.length_filter_le _ _) (by rw [List.length_take];omega)
  have hBq:(!(Go.Gm.nth t.ops i).read && decide ((Go.Gm.nth t.ops i).key=n))=false:=hc1
  have hcc:((((t.ops.take i).filter fun o=>!o.read && decide (o.key=n)).length:Nat):Int)=((((t.ops.take (i+1)).filter fun o=>!o.read && decide (o.key=n)).length:Nat):Int):=by rw [hstp,if_neg (by rw [hBq];simp),List.append_nil]
  refine wp_skip (block_n (then_n ?_))
  refine region_z hS (qf (o_add .t qi) r1 qz (qM rfl rfl qZ)) hB [26,23,22,21,20,19,18,17,16,15,14,13,12,11,10,9,7,5,4,1] [102,0] rfl rfl ?_
  clear hS;intro a w F hS
  refine then_n ?_
  replace hS:=hS.ent (i:=11) (s':=.pv (.int .i64 ((i+1:Nat):Int))) rfl (.int (wrap_succ (by omega)))
  replace hS:=hS.ent (i:=5) (s':=.pv (.int .i64 ((((t.ops.take (i+1)).filter fun o=>!o.read && decide (o.key=n)).length:Nat):Int))) rfl (.int hcc)
  obtain ⟨F,hS⟩:=hS.nm [10,9,4,1,5,11] [0] rfl rfl
  exact ⟨(i+1),F,⟨by omega,trivial⟩,hS,by omega⟩
 have hil:i=t.ops.length:=by simp at hc0;omega
 refine wp_exit (then_x (then_x (block_x (then_n (wp_seq ?_)))))
 refine region_z hS (qM rfl rfl (qN rfl rfl qZ)) hB [4] [0] rfl rfl ?_
 clear hS;intro a w F hS
 refine then_n (wp_ret ?_)
 refine ret_P hfr hS rfl (.tmp rfl .nil) (.one (.int (by rw [hil,List.take_length])))
theorem rwrites_c (l:List OpD) (n:Int) (hl:l.length≤1000000):FnP Tryz.prog 127 [.sl rOp l,.int .i64 n] (.int .i64 (((l.filter fun o=>!o.read && decide (o.key=n)).length:Nat):Int)):=by
 refine FnP.mk Tryz.func127 rfl Tryz.ntmps127 rfl ?_
 intro B a w F hB hfr hS
 have hll:l.length≤1000000:=hl
 refine wp_seq ?_
 refine region_z hS (qf (oN qi) trivial qz qZ) hB [4,1,0] [0] rfl rfl ?_
 clear hS;intro a w F hS
 refine then_n (wp_seq ?_)
 refine region_z hS (qf (oN qi) trivial qz qZ) hB [5,4,1,0] [0] rfl rfl ?_
 clear hS;intro a w F hS
 refine then_n (wp_seq (wp_seq ?_))
 refine region_z hS (qM rfl rfl (qf (o_len_sl Tryz.underlying32 .t) r1 qz (qf (oM qi) trivial qz qZ))) hB [10,9,8,5,4,1] [0] rfl rfl ?_
 clear hS;intro a w F hS
 refine then_n (wp_block ?_)
 refine loop_keep (σ:=(Nat)) [1,4,8,9] [0] (fun s=>[(10,.pv (.int .i64 (s:Int))),(5,.pv (.int .i64 ((((l.take s).filter fun o=>!o.read && decide (o.key=n)).length:Nat):Int)))]) (fun s=>[]) (fun s=>s≤l.length∧(True)) (fun s=>l.length - s) (0) hS ⟨rfl,rfl,rfl,rfl,rfl,rfl,trivial⟩ ⟨rfl,trivial⟩ ⟨Nat.zero_le _,trivial⟩ ?_
 clear hS;intro i a w F hC hS
 try dsimp only at hC
 obtain ⟨F,hS⟩:=hS.nm [10,9,8,5,4,1] [0] rfl rfl
 try dsimp only at hS
 obtain ⟨hi,hq⟩:=hC
 refine wp_seq ?_
 refine region_z hS (qf (o_lss .t .t) r2 qz qZ) hB [11,10,9,8,5,4,1] [0] rfl rfl ?_
 clear hS;intro a w F hS
 refine then_n (wp_seq ?_)
 refine cond_b hS rfl (fun hc0=>?_) (fun hc0=>?_)
 ·skip
  have hil:i<l.length:=by simp at hc0;omega
  refine wp_skip (then_n (wp_seq (wp_block (wp_seq ?_))))
  refine region_q hS (qf (o_indexAddr_sl (sz:=4) (.mk Tryz.underlying32 (by kernel_rfl)) (by intro x;rfl) .t .t (by omega) (by omega)) r2 qz (qf (oR true 4 .t) r1 qz (qf (oH [.bool false,.int .i64 0,.int .i64 0,.int .i64 0] 101) trivial qz (qf (oA 4 101 .same .t) r2 r1 qZ)))) hB ?_
  clear hS;intro a w F hS
  replace hS:=hS.sub
  obtain ⟨F,hS⟩:=hS.nm [13,12,11,10,9,8,7,5,4,1] [101,0] rfl rfl
  try dsimp only [RS.sub,SF.sub,CF.sub,csub,Anc.sub,List.map,stCells,xL,xM,Nat.reduceAdd,xD,xE,xT,xU,xC,xN,zCF,ldSF,rInt,rOp,rTx] at hS
  generalize Act.tau a 7=v7 at hS
  try simp only [Int.toNat_natCast] at hS
  refine then_n (wp_seq ?_)
  refine region_z hS (qf (oF 0 101 .is) r1 r1 (qf (oL false 1 101 .adr) r1 r1 (qf (o_not .t) r1 qz (qM rfl rfl (qk rfl (fun h=>oF 1 101 .is) r2 r1 (qk rfl (fun h=>oL false 1 101 (.w h .adr)) r2 r1 (qm rfl rfl rfl rfl (qk rfl (fun h=>o_eql (.w h) (.w h)) r3 qz (qf (o_and2 .t .t) r2 qz qZ))))))))) hB [22,21,20,19,18,17,16,15,14,13,12,11,10,9,8,7,5,4,1] [101,0] rfl rfl ?_
  clear hS;intro a w F hS
  refine then_n ?_
  refine cond_b hS rfl (fun hc1=>?_) (fun hc1=>?_)
  ·skip
   have hstp:((l.take (i+1)).filter fun o=>!o.read && decide (o.key=n))=((l.take i).filter fun o=>!o.read && decide (o.key=n))++(if (!(Go.Gm.nth l i).read && decide ((Go.Gm.nth l i).key=n))=true then [(Go.Gm.nth l i)] else []):=by rw [take_nth hil,List.filter_append];simp only [List.filter_cons,List.filter_nil]
   have hle:((l.take i).filter fun o=>!o.read && decide (o.key=n)).length≤i:=Nat.le_trans (List.length_filter_le _ _) (by rw [List.length_take];omega)
   have hBq:(!(Go.Gm.nth l i).read && decide ((Go.Gm.nth l i).key=n))=true:=hc1
   have hcc:IntKind.wrap .i64 (((((l.take i).filter fun o=>!o.read && decide (o.key=n)).length:Nat):Int)+1)=((((l.take (i+1)).filter fun o=>!o.read && decide (o.key=n)).length:Nat):Int):=by rw [hstp,if_pos hBq,List.length_append,wrap_i64 (by omega)];simp
   refine region_z hS (qM rfl rfl (qf (o_add .t qi) r1 qz (qN rfl rfl qZ))) hB [24,23,22,21,20,19,18,17,16,15,14,13,12,11,10,9,8,7,5,4,1] [101,0] rfl rfl ?_
   clear hS;intro a w F hS
   refine block_n (then_n ?_)
   refine region_z hS (qf (o_add .t qi) r1 qz (qM rfl rfl qZ)) hB [25,24,23,22,21,20,19,18,17,16,15,14,13,12,11,10,9,8,7,5,4,1] [101,0] rfl rfl ?_
   clear hS;intro a w F hS
   refine then_n ?_
   replace hS:=hS.ent (i:=10) (s':=.pv (.int .i64 ((i+1:Nat):Int))) rfl (.int (wrap_succ (by omega)))
   replace hS:=hS.ent (i:=5) (s':=.pv (.int .i64 ((((l.take (i+1)).filter fun o=>!o.read && decide (o.key=n)).length:Nat):Int))) rfl (.int hcc)
   obtain ⟨F,hS⟩:=hS.nm [9,8,4,1,5,10] [0] rfl rfl
   exact ⟨(i+1),F,⟨by omega,trivial⟩,hS,by omega⟩
  have hstp:((l.take (i+1)).filter fun o=>!o.read && decide (o.key=n))=((l.take i).filter fun o=>!o.read && decide (o.key=n))++(if (!(Go.Gm.nth l i).read && decide ((Go.Gm.nth l i).key=n))=true then [(Go.Gm.nth l i)] else []):=by rw [take_nth hil,List.filter_append];simp only [List.filter_cons,List.filter_nil]
  have hle:((l.take i).filter fun o=>!o.read && decide (o.key=n)).length≤i:=Nat.le_trans (List.length_filter_le _ _) (by rw [List.length_take];omega)
  have hBq:(!(Go.Gm.nth l i).read && decide ((Go.Gm.nth l i).key=n))=false:=hc1
  have hcc:((((l.take i).filter fun o=>!o.read && decide (o.key=n)).length:Nat):Int)=((((l.take (i+1)).filter fun o=>!o.read && decide (o.key=n)).length:Nat):Int):=by rw [hstp,if_neg (by rw [hBq];simp),List.append_nil]
  refine wp_skip (block_n (then_n ?_))
  refine region_z hS (qf (o_add .t qi) r1 qz (qM rfl rfl qZ)) hB [25,22,21,20,19,18,17,16,15,14,13,12,11,10,9,8,7,5,4,1] [101,0] rfl rfl ?_
  clear hS;intro a w F hS
  refine then_n ?_
  replace hS:=hS.ent (i:=10) (s':=.pv (.int .i64 ((i+1:Nat):Int))) rfl (.int (wrap_succ (by omega)))
  replace hS:=hS.ent (i:=5) (s':=.pv (.int .i64 ((((l.take (i+1)).filter fun o=>!o.read && decide (o.key=n)).length:Nat):Int))) rfl (.int hcc)
  obtain ⟨F,hS⟩:=hS.nm [9,8,4,1,5,10] [0] rfl rfl
  exact ⟨(i+1),F,⟨by omega,trivial⟩,hS,by omega⟩
 have hil:i=l.length:=by simp at hc0;omega
 refine wp_exit (then_x (then_x (block_x (then_n (wp_seq ?_)))))
 refine region_z hS (qM rfl rfl (qN rfl rfl qZ)) hB [4] [0] rfl rfl ?_
 clear hS;intro a w F hS
 refine then_n (wp_ret ?_)
 refine ret_P hfr hS rfl (.tmp rfl .nil) (.one (.int (by rw [hil,List.take_length])))
end Go.Proofs.YtcfgcpcakdknkaaGreat
namespace Go.Proofs.YtcfgcpcakdknkaaGreat
open Go Go.Gm
set_option linter.unusedVariables false
set_option linter.unusedSimpArgs false
set_option maxHeartbeats 4000000
set_option maxRecDepth 8000
end Go.Proofs.YtcfgcpcakdknkaaGreat
namespace Go.Proofs.YtcfgcpcakdknkaaGreat
open Go Go.Gm
set_option linter.unusedVariables false
set_option linter.unusedSimpArgs false
set_option maxHeartbeats 4000000
set_option maxRecDepth 8000
theorem equalO_c (x y:List OpD):FnP Tryz.prog 145 [.sl rOp x,.sl rOp y] (.bool (decide (x=y))):=by
 refine FnP.mk Tryz.func145 rfl Tryz.ntmps145 rfl ?_
 intro B a w F hB hfr hS
 have hxl:=Sat.lenSl hS (i:=0) rfl
 refine wp_seq ?_
 refine region_z hS (qf (oN .cb) trivial qz qZ) hB [4,1,0] [0] rfl rfl ?_
 clear hS;intro a w F hS
 refine then_n (wp_seq (wp_seq ?_))
 refine region_z hS (qM rfl rfl (qf (o_len_sl Tryz.underlying32 .t) r1 qz (qM rfl rfl (qf (o_len_sl Tryz.underlying32 .t) r1 qz (qf (o_neq .t .t) r2 qz qZ))))) hB [10,4,1,0] [0] rfl rfl ?_
 clear hS;intro a w F hS
 refine then_n ?_
 refine cond_b hS rfl (fun hc0=>?_) (fun hc0=>?_)
 ·skip
  have hg:false=decide (x=y):=by
    rw [eq_comm,decide_eq_false_iff_not]
    intro h
    subst h
    simp at hc0
  refine wp_seq ?_
  refine region_z hS (qf (oN .cb) trivial qz qZ) hB [4,1,0] [0] rfl rfl ?_
  clear hS;intro a w F hS
  refine then_n (wp_ret (then_r ?_))
  refine ret_P hfr hS rfl (.tmp rfl .nil) (.one (.bool hg))
 have hl:x.length=y.length:=by simp at hc0;omega
 refine wp_skip (then_n (wp_seq (wp_seq ?_)))
 refine region_z hS (qM rfl rfl (qf (o_len_sl Tryz.underlying32 .t) r1 qz (qf (oM qi) trivial qz qZ))) hB [13,12,4,1,0] [0] rfl rfl ?_
 clear hS;intro a w F hS
 refine then_n (wp_block ?_)
 obtain ⟨F,hS⟩:=hS.nm [13,12,1,0] [0] rfl rfl
 refine loop_inv (σ:=Nat) (fun s=>(⟨[(0,.pv (.sl rOp x)),(1,.pv (.sl rOp y)),(12,.pv (.int .i64 x.length)),(13,.pv (.int .i64 s))],[(0,frame B)]⟩:En)) (fun s=>s≤x.length ∧ ∀ j,j<s→Go.Gm.nth x j=Go.Gm.nth y j) (fun s=>x.length - s) 0 hS ⟨Nat.zero_le _,fun j hj=>absurd hj (Nat.not_lt_zero j)⟩ ?_
 clear hS;intro i a w F hC hS
 try dsimp only at hC
 try dsimp only at hS
 obtain ⟨hi,hq⟩:=hC
 refine wp_seq ?_
 refine region_z hS (qf (o_lss .t .t) r2 qz qZ) hB [14,13,12,1,0] [0] rfl rfl ?_
 clear hS;intro a w F hS
 refine then_n (wp_seq ?_)
 refine cond_b hS rfl (fun hc1=>?_) (fun hc1=>?_)
 ·skip
  have hil:i<x.length:=by simp at hc1;omega
  refine wp_skip (then_n (wp_seq (wp_block (wp_seq ?_))))
  refine region_z hS (qM rfl rfl (qN rfl rfl qZ)) hB [15,14,13,12,5,1,0] [0] rfl rfl ?_
  clear hS;intro a w F hS
  refine then_n (wp_seq ?_)
  refine region_any (by kernel_rfl) hS (by kernel_rfl) (qM rfl rfl (qM rfl rfl (qf (o_indexAddr_sl (sz:=4) (.mk Tryz.underlying32 (by kernel_rfl)) (by intro x;rfl) .t .t (by omega) (by omega)) r2 qz (qf (oR true 4 .t) r1 qz (qM rfl rfl (qM rfl rfl (qf (o_indexAddr_sl (sz:=4) (.mk Tryz.underlying32 (by kernel_rfl)) (by intro x;rfl) .t .t (by omega) (by omega)) r2 qz (qf (oR true 4 .t) r1 qz (qf (o_neqS (ks:=[false,true,true,true]) (by kernel_rfl) .t .t (.bool (.int (.int (.int .nil))))) r2 qz qZ))))))))) (by kernel_rfl) (by rw [hB];kernel_rfl) ?_
  clear hS;intro a w F hS
  obtain ⟨F,hS⟩:=hS.nm [24,23,22,21,20,19,18,17,16,15,14,13,12,5,1,0] [0] rfl rfl
  try dsimp only [List.map,xD,xE,xT,xU,ldSF] at hS
  refine then_n ?_
  refine cond_b hS rfl (fun hc2=>?_) (fun hc2=>?_)
  ·skip
   have hg:false=decide (x=y):=by
     rw [eq_comm,decide_eq_false_iff_not]
     intro h
     subst h
     simp at hc2
   refine wp_seq ?_
   refine region_z hS (qf (oN .cb) trivial qz qZ) hB [24,23,22,21,20,19,18,17,16,15,14,13,12,5,4,1,0] [0] rfl rfl ?_
   clear hS;intro a w F hS
   refine then_n (wp_ret (block_r (then_r (then_r (block_r (then_r ?_))))))
   refine ret_P hfr hS rfl (.tmp rfl .nil) (.one (.bool hg))
  rw [Int.toNat_natCast] at hc2
  have hqi:Go.Gm.nth x i=Go.Gm.nth y i:=opD_eq hc2
  refine wp_skip (block_n (then_n ?_))
  refine region_z hS (qf (o_add .t qi) r1 qz (qM rfl rfl qZ)) hB [25,24,23,22,21,20,19,18,17,16,15,14,13,12,5,1,0] [0] rfl rfl ?_
  clear hS;intro a w F hS
  refine then_n ?_
  replace hS:=hS.ent (i:=13) (s':=.pv (.int .i64 ((i+1:Nat):Int))) rfl (.int (wrap_succ (by omega)))
  obtain ⟨F,hS⟩:=hS.nm [13,12,1,0] [0] rfl rfl
  exact ⟨i+1,F,⟨by omega,fun j hj=>by rcases Nat.lt_or_eq_of_le (Nat.le_of_lt_succ hj) with h | h;exact hq j h;rw [h];exact hqi⟩,hS,by omega⟩
 have hg:true=decide (x=y):=by
   rw [eq_comm,decide_eq_true_eq]
   exact list_same hl fun j hj=>hq j (by simp at hc1;omega)
 refine wp_exit (then_x (then_x (block_x (then_n (wp_seq ?_)))))
 refine region_z hS (qf (oN .cb) trivial qz qZ) hB [4] [0] rfl rfl ?_
 clear hS;intro a w F hS
 refine then_n (wp_ret ?_)
 refine ret_P hfr hS rfl (.tmp rfl .nil) (.one (.bool hg))
theorem txD_eq' (u v:TxD):((decide (u.id=v.id) && (u.done == v.done)) && decide (u.ops=v.ops))=decide (u=v):=by
 cases u;cases v
 rw [Bool.eq_iff_iff]
 simp [and_assoc]
theorem opSame_c (x y:List OpD):FnP Tryz.prog 106 [.sl rOp x,.sl rOp y] (.bool (decide (x=y))):=by
 refine FnP.mk Tryz.func106 rfl Tryz.ntmps106 rfl ?_
 intro B a w F hB hfr hS
 refine wp_seq ?_
 refine region_z hS (qf (oN .cb) trivial qz qZ) hB [4,1,0] [0] rfl rfl ?_
 clear hS;intro a w F hS
 refine then_n (wp_seq ?_)
 refine region_z hS (qM rfl rfl (qM rfl rfl (qf (oP (equalO_c x y) Tryz.func145 (Args.two .t .t)) r2 qz (qN rfl rfl qZ)))) hB [4] [0] rfl rfl ?_
 clear hS;intro a w F hS
 refine then_n (wp_ret ?_)
 refine ret_P hfr hS rfl (.tmp rfl .nil) (.one .refl)
theorem txSame_c (u v:TxD):FnP Tryz.prog 52 [.agg (rTx u),.agg (rTx v)] (.bool (decide (u=v))):=by
 refine FnP.mk Tryz.func52 rfl Tryz.ntmps52 rfl ?_
 intro B a w F hB hfr hS
 refine wp_seq ?_
 refine region_q hS (qf (oX 101 (.conv .t .agg)) r1 qz (qf (oX 102 (.conv .t .agg)) r1 qz (qf (oN .cb) trivial qz qZ))) hB ?_
 clear hS;intro a w F hS
 replace hS:=hS.sub
 obtain ⟨F,hS⟩:=hS.nm [4,3,2] [102,101,0] rfl rfl
 try dsimp only [RS.sub,SF.sub,CF.sub,csub,Anc.sub,List.map,zCF,rTx,rOp] at hS
 generalize Act.tau a 2=v2 at hS
 generalize Act.tau a 3=v3 at hS
 refine then_n (wp_seq ?_)
 refine region_z hS (qf (oF 0 101 .is) r1 r1 (qf (oL false 1 101 .adr) r1 r1 (qf (oF 0 102 .is) r1 r1 (qf (oL false 1 102 .adr) r1 r1 (qf (o_eql .t .t) r2 qz (qM rfl rfl (qk rfl (fun h=>oF 1 101 .is) r2 r1 (qk rfl (fun h=>oL false 1 101 (.w h .adr)) r2 r1 (qk rfl (fun h=>oF 1 102 .is) r2 r1 (qk rfl (fun h=>oL false 1 102 (.w h .adr)) r2 r1 (qk rfl (fun h=>o_eqlB Tryz.underlying4 (.w h) (.w h)) r3 qz (qf (o_and2 .t .t) r2 qz (qM rfl rfl (qk rfl (fun h=>oF 2 101 .is) r2 r1 (qk rfl (fun h=>oL false 1 101 (.w h .adr)) r2 r1 (qk rfl (fun h=>oF 2 102 .is) r2 r1 (qk rfl (fun h=>oL false 1 102 (.w h .adr)) r2 r1 (qk rfl (fun h=>oP (opSame_c u.ops v.ops) Tryz.func106 (Args.two (.w h) (.w h))) r3 qz (qf (o_and2 .t .t) r2 qz (qN rfl rfl qZ)))))))))))))))))))) hB [4] [102,101,0] rfl rfl ?_
 clear hS;intro a w F hS
 refine then_n (wp_ret ?_)
 refine ret_P hfr hS rfl (.tmp rfl .nil) (.one (.bool (txD_eq' u v)))
theorem refTxSame_c (u v:TxD):FnP Tryz.prog 60 [.agg (rTx u),.agg (rTx v)] (.bool (decide (u=v))):=by
 refine FnP.mk Tryz.func60 rfl Tryz.ntmps60 rfl ?_
 intro B a w F hB hfr hS
 refine wp_seq ?_
 refine region_q hS (qf (oX 101 (.conv .t .agg)) r1 qz (qf (oX 102 (.conv .t .agg)) r1 qz (qf (oN .cb) trivial qz qZ))) hB ?_
 clear hS;intro a w F hS
 replace hS:=hS.sub
 obtain ⟨F,hS⟩:=hS.nm [4,3,2] [102,101,0] rfl rfl
 try dsimp only [RS.sub,SF.sub,CF.sub,csub,Anc.sub,List.map,zCF,rTx,rOp] at hS
 generalize Act.tau a 2=v2 at hS
 generalize Act.tau a 3=v3 at hS
 refine then_n (wp_seq ?_)
 refine region_z hS (qf (oF 0 101 .is) r1 r1 (qf (oL false 1 101 .adr) r1 r1 (qf (oF 0 102 .is) r1 r1 (qf (oL false 1 102 .adr) r1 r1 (qf (o_eql .t .t) r2 qz (qM rfl rfl (qk rfl (fun h=>oF 1 101 .is) r2 r1 (qk rfl (fun h=>oL false 1 101 (.w h .adr)) r2 r1 (qk rfl (fun h=>oF 1 102 .is) r2 r1 (qk rfl (fun h=>oL false 1 102 (.w h .adr)) r2 r1 (qk rfl (fun h=>o_eqlB Tryz.underlying4 (.w h) (.w h)) r3 qz (qf (o_and2 .t .t) r2 qz (qM rfl rfl (qk rfl (fun h=>oF 2 101 .is) r2 r1 (qk rfl (fun h=>oL false 1 101 (.w h .adr)) r2 r1 (qk rfl (fun h=>oF 2 102 .is) r2 r1 (qk rfl (fun h=>oL false 1 102 (.w h .adr)) r2 r1 (qk rfl (fun h=>oP (sameOps_c u.ops v.ops) Tryz.func116 (Args.two (.w h) (.w h))) r3 qz (qf (o_and2 .t .t) r2 qz (qN rfl rfl qZ)))))))))))))))))))) hB [4] [102,101,0] rfl rfl ?_
 clear hS;intro a w F hS
 refine then_n (wp_ret ?_)
 refine ret_P hfr hS rfl (.tmp rfl .nil) (.one (.bool (txD_eq' u v)))
end Go.Proofs.YtcfgcpcakdknkaaGreat
