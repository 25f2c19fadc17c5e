/- Deltas: both. No condition beyond those that each theorem says. -/
import Derived.Test.YtcfgcpcakdknkaaGreatKcX
import Derived.Test.YtcfgcpcakdknkaaGreatDl1
namespace Go.Proofs.YtcfgcpcakdknkaaGreat
open Go Go.Gm
set_option linter.unusedVariables false
set_option linter.unusedSimpArgs false
set_option maxHeartbeats 4000000
set_option maxRecDepth 8000
theorem not_tr {x:Bool} (h:(!x)=true):x=false:=by cases x;rfl;cases h
theorem not_fl {x:Bool} (h:(!x)=false):x=true:=by cases x;cases h;rfl
theorem bothT_c (was now old next:List TxD) (hw:was.length≤1000) (hn:now.length≤1000) (ho:old.length≤1000) (hx:next.length≤1000):FnP Tryz.prog 70 [.sl rTx was,.sl rTx now,.sl rTx old,.sl rTx next,.clos 51 [],.clos 52 []] (.tup [.sl rTx (joinR TxD.id was now old next).1,.sl rTx (joinR TxD.id was now old next).2.1,.bool (joinR TxD.id was now old next).2.2]):=by
 refine FnP.mk Tryz.func70 rfl Tryz.ntmps70 rfl ?_
 intro B a w F hB hfr hS
 refine wp_seq ?_
 refine region_z hS (qf (oN (.c rfl)) trivial qz (qf (oN (.c rfl)) trivial qz (qf (oN .cb) trivial qz qZ))) hB [14,13,12,5,4,3,2,1,0] [0] rfl rfl ?_
 clear hS;intro a w F hS
 refine then_n (wp_seq ?_)
 refine region_q hS (qf (o_makeMapG (ek:=(fun c:Int=>PV.int .i64 c)) (ok:=(fun n:Int=>inR .i64 n)) (kv:=(fun n:Int=>Value.int .i64 n)) 101) trivial qz (qN rfl rfl qZ)) hB ?_
 clear hS;intro a w F hS
 replace hS:=hS.sub
 obtain ⟨F,hS⟩:=hS.nm [15,14,13,12,5,4,3,2,1,0] [101,0] rfl rfl
 try dsimp only [RS.sub,SF.sub,CF.sub,csub,Anc.sub,List.map,stCells,xL,xM,Nat.reduceAdd,xD,xE,xT,xU,xC,xN,zCF,rHist,rTx,rOrd,rVer,rInt,rOp,rDelta] at hS
 generalize Act.tau a 32=v32 at hS
 refine then_n (wp_seq (wp_seq ?_))
 refine region_z hS (qM rfl rfl (qM rfl rfl (qM rfl rfl (qM rfl rfl (qf (o_buildA (sz:=1) (r:=[(0,.tmp 33),(1,.tmp 34),(2,.tmp 35),(3,.tmp 36)]) (zs:=[.slice none 0 0,.slice none 0 0,.slice none 0 0,.slice none 0 0]) (pl:=[(0,1),(1,1),(2,1),(3,1)]) Tryz.underlying136 (by kernel_rfl) (by kernel_rfl) rfl (.one rfl .t one_sl (by kernel_rfl) (.one rfl .t one_sl (by kernel_rfl) (.one rfl .t one_sl (by kernel_rfl) (.one rfl .t one_sl (by kernel_rfl) .nil)))) (by rfl)) r4 qz (qf (oM qi) trivial qz qZ)))))) hB [38,37,15,14,13,12,5,4,3,2,1,0] [101,0] rfl rfl ?_
 clear hS;intro a w F hS
 refine then_n (wp_block ?_)
 refine loop_keep (σ:=Nat×List (GE Int Int)×Nat) [0,1,2,3,4,5,12,13,14,15,37] [0] (fun s=>[(38,.pv (.int .i64 (s.1:Int)))]) (fun s=>[(101,.ob (.val v32) (MPI s.2.1 s.2.2))]) (fun s=>s.1≤4∧KSet s.2.1 ((([was,now,old,next].take s.1).flatten).map TxD.id)) (fun s=>4 - s.1) ((0),([]),(0)) hS ⟨rfl,rfl,rfl,rfl,rfl,rfl,rfl,rfl,rfl,rfl,rfl,rfl,trivial⟩ ⟨rfl,rfl,trivial⟩ ⟨Nat.zero_le _,KSet.nil⟩ ?_
 clear hS;intro s a w F hC hS
 obtain ⟨i,es,ck⟩:=s
 try dsimp only at hC
 obtain ⟨F,hS⟩:=hS.nm [38,37,15,14,13,12,5,4,3,2,1,0] [101,0] rfl rfl
 try dsimp only at hS
 obtain ⟨hi4,hK⟩:=hC
 refine wp_seq ?_
 refine region_z hS (qf (o_lss .t qi) r1 qz qZ) hB [39,38,37,15,14,13,12,5,4,3,2,1,0] [101,0] rfl rfl ?_
 clear hS;intro a w F hS
 refine then_n (wp_seq ?_)
 refine cond_b hS rfl (fun hc0=>?_) (fun hc0=>?_)
 ·skip
  have hi4:i<4:=by simp at hc0;omega
  refine wp_skip (then_n (wp_seq (wp_block (wp_seq ?_))))
  refine region_z hS (qf (o_index_one (l:=[was,now,old,next]) (p:=(fun y=>PV.sl rTx y)) Tryz.underlying136 (by kernel_rfl) (by kernel_rfl) (.conv .t (.aggU rfl rfl)) .t (by omega) (by omega) rfl) r2 qz (qN rfl rfl qZ)) hB [38,37,17,15,14,13,12,5,4,3,2,1,0] [101,0] rfl rfl ?_
  clear hS;intro a w F hS
  try simp only [Int.toNat_natCast] at hS
  obtain ⟨lc,lce⟩:∃ z,z=Go.Gm.nth [was,now,old,next] i:=⟨_,rfl⟩
  try dsimp only at hS
  rw [← lce] at hS
  have hlc:lc.length≤1000:=by rw [lce];rcases i with _ | _ | _ | _ | i;exact hw;exact hn;exact ho;exact hx;omega
  refine then_n (wp_seq ?_)
  refine region_z hS (qM rfl rfl (qf (o_len_sl Tryz.underlying27 .t) r1 qz (qf (oM qi) trivial qz qZ))) hB [43,42,41,38,37,15,14,13,12,5,4,3,2,1,0] [101,0] rfl rfl ?_
  clear hS;intro a w F hS
  refine then_n (wp_block ?_)
  refine loop_keep (σ:=(Nat)×(List (GE Int Int))×(Nat)) [0,1,2,3,4,5,12,13,14,15,37,38,41,42] [0] (fun s=>[(43,.pv (.int .i64 (s.1:Int)))]) (fun s=>[(101,.ob (.val v32) (MPI s.2.1 s.2.2))]) (fun s=>s.1≤lc.length∧(KSet s.2.1 ((([was,now,old,next].take i).flatten++lc.take s.1).map TxD.id))) (fun s=>lc.length - s.1) ((0),(es),(ck)) hS ⟨rfl,rfl,rfl,rfl,rfl,rfl,rfl,rfl,rfl,rfl,rfl,rfl,rfl,rfl,rfl,trivial⟩ ⟨rfl,rfl,trivial⟩ ⟨Nat.zero_le _,(by simpa using hK)⟩ ?_
  clear hS;intro s a w F hC hS
  obtain ⟨j,es2,ck2⟩:=s
  try dsimp only at hC
  obtain ⟨F,hS⟩:=hS.nm [43,42,41,38,37,15,14,13,12,5,4,3,2,1,0] [101,0] rfl rfl
  try dsimp only at hS
  obtain ⟨hi,hq⟩:=hC
  refine wp_seq ?_
  refine region_z hS (qf (o_lss .t .t) r2 qz qZ) hB [44,43,42,41,38,37,15,14,13,12,5,4,3,2,1,0] [101,0] rfl rfl ?_
  clear hS;intro a w F hS
  refine then_n (wp_seq ?_)
  refine cond_b hS rfl (fun hc1=>?_) (fun hc1=>?_)
  ·skip
   have hil:j<lc.length:=by simp at hc1;omega
   refine wp_skip (then_n (wp_seq (wp_block (wp_seq ?_))))
   refine region_q hS (qf (o_indexAddr_sl (sz:=3) (.mk Tryz.underlying27 (by kernel_rfl)) (by intro x;rfl) .t .t (by omega) (by omega)) r2 qz (qf (oR true 3 .t) r1 qz (qf (oH [.int .i64 0,.bool false,.slice none 0 0] 102) trivial qz (qf (oA 3 102 .same .t) r2 r1 qZ)))) hB ?_
   clear hS;intro a w F hS
   replace hS:=hS.sub
   obtain ⟨F,hS⟩:=hS.nm [43,42,41,38,37,19,15,14,13,12,5,4,3,2,1,0] [102,101,0] rfl rfl
   try dsimp only [RS.sub,SF.sub,CF.sub,csub,Anc.sub,List.map,stCells,xL,xM,Nat.reduceAdd,xD,xE,xT,xU,xC,xN,zCF,ldSF,rHist,rTx,rOrd,rVer,rInt,rOp,rDelta] at hS
   generalize Act.tau a 19=v19 at hS
   try simp only [Int.toNat_natCast] at hS
   refine then_n ?_
   refine region_z hS (qM rfl rfl (qM rfl rfl (qf (oL true 3 102 .is) r1 r1 (qf (o_callClosP (avs:=[.agg (rTx (Go.Gm.nth lc j))]) .t (idT_c (Go.Gm.nth lc j)) Tryz.func51 rfl (by kernel_rfl) (Args.one (.pagg .t))) r2 qz (qf (o_lookupG (ek:=(fun c:Int=>PV.int .i64 c)) (z0:=(0:Int)) 101 Tryz.underlying135 (key_intR Tryz.underlying3) (by kernel_rfl) (fun _ _=>⟨rfl,inR0⟩) .is (IsKeyOf.intR .t rfl)) r2 r1 (qf (o_add .t qi) r1 qz (qf (o_mapUpdateG (ek:=(fun c:Int=>PV.int .i64 c)) 101 Tryz.underlying135 (key_intR Tryz.underlying3) .is (IsKeyOf.intR .t rfl) .t) r3 r1 qZ))))))) hB [43,42,41,38,37,15,14,13,12,5,4,3,2,1,0] [102,101,0] rfl rfl ?_
   clear hS;intro a w F hS
   refine block_n (then_n ?_)
   refine region_z hS (qf (o_add .t qi) r1 qz (qM rfl rfl qZ)) hB [43,42,41,38,37,15,14,13,12,5,4,3,2,1,0] [102,101,0] rfl rfl ?_
   clear hS;intro a w F hS
   refine then_n ?_
   replace hS:=hS.ent (i:=43) (s':=.pv (.int .i64 ((j+1:Nat):Int))) rfl (.int (wrap_succ (by omega)))
   obtain ⟨F,hS⟩:=hS.nm [42,41,38,37,15,14,13,12,5,4,3,2,1,0,43] [0,101] rfl rfl
   exact ⟨((j+1),_,_),F,⟨by omega,(by rw [take_nth hil,← List.append_assoc,List.map_append];exact KSet.put hq)⟩,hS,by omega⟩
  have hil:j=lc.length:=by simp at hc1;omega
  have hK2:KSet es2 ((([was,now,old,next].take (i+1)).flatten).map TxD.id):=by rw [hil,List.take_length] at hq;rw [take_nth (l:=[was,now,old,next]) (i:=i) (by simp;omega),List.flatten_append,List.flatten_cons,List.flatten_nil,List.append_nil,← lce];exact hq
  refine wp_exit (then_x (then_x (block_x (block_n (then_n ?_)))))
  refine region_z hS (qf (o_add .t qi) r1 qz (qM rfl rfl qZ)) hB [38,37,15,14,13,12,5,4,3,2,1,0] [101,0] rfl rfl ?_
  clear hS;intro a w F hS
  refine then_n ?_
  replace hS:=hS.ent (i:=38) (s':=.pv (.int .i64 ((i+1:Nat):Int))) rfl (.int (wrap_succ (by omega)))
  obtain ⟨F,hS⟩:=hS.nm [37,15,14,13,12,5,4,3,2,1,0,38] [0,101] rfl rfl
  exact ⟨((i+1),(es2),(ck2)),F,⟨by omega,hK2⟩,hS,by omega⟩
 have hK4:KSet es ((was++now++old++next).map TxD.id):=by have h9:=hK;rw [show i=4 by simp at hc0;omega] at h9;simpa using h9
 have hkl:(keysK TxD.id was now old next).length≤4000:=by have:=keysL_len ((was++now++old++next).map TxD.id);rw [List.length_map] at this;simp only [List.length_append] at this;unfold keysK;omega
 refine wp_exit (then_x (then_x (block_x (then_n (wp_seq (wp_seq ?_))))))
 replace hS:=hS.fresh 60 rfl
 replace hS:=hS.turn 101 rfl (r':=RS.hp (MPI es ck v32)) (fun _ _ _ _ h=>h)
 obtain ⟨F,hS⟩:=hS.nm [39,38,37,15,14,13,12,5,4,3,2,1,0] [101,60,0] rfl rfl
 refine part_first 3 hS (by kernel_rfl) (cG rfl (oM .t) r1 trivial (cG rfl (oP (mkeys_c v32) Tryz.func118 (Args.one .t)) r1 trivial (cG rfl (o_callG2N 101 60 (sortedI_c v32 es ck _ hK4 (by rw [List.length_map];simp only [List.length_append];omega)) Tryz.func117 rfl (by kernel_rfl) rfl (Args.one .t) pvOne1) r1 r2 ChainN.nil))) (by kernel_rfl) (by rw [hB];kernel_rfl) ?_
 clear hS;intro a w F hS
 replace hS:=hS.sub
 obtain ⟨F,hS⟩:=hS.nm [57,14,13,12,5,4,3,2,1,0] [101,60,0] rfl rfl
 try dsimp only [RS.sub,SF.sub,CF.sub,csub,Anc.sub,List.map,rHist,rTx,rOrd,rVer,rInt,rOp,rDelta] at hS
 generalize Act.tau a 57=v57 at hS
 replace hS:=hS.turn 60 rfl (r':=.ob (.val v57) (rowH 3 1 rInt (keysK TxD.id was now old next))) (fun _ _ _ _ h=>h)
 obtain ⟨F,hS⟩:=hS.give 60 57 rfl rfl
 obtain ⟨F,hS⟩:=hS.nm [57,14,13,12,5,4,3,2,1,0] [0] rfl rfl
 refine part_last hS (by kernel_rfl) (cG rfl (o_len_sl Tryz.underlying35 .t) r1 trivial (cG rfl (oM (.ci (by kernel_rfl))) trivial trivial ChainN.nil)) (by kernel_rfl) (by rw [hB];kernel_rfl) ?_
 clear hS;intro a w F hS
 obtain ⟨F,hS⟩:=hS.nm [59,58,57,14,13,12,5,4,3,2,1,0] [0] rfl rfl
 try dsimp only [rHist,rTx,rOrd,rVer,rInt,rOp,rDelta] at hS
 refine then_n (wp_block ?_)
 replace hS:=hS.fresh 50 rfl
 replace hS:=hS.turn 50 rfl (nilRow (T:=34) (sz:=3) (R:=rTx))
 replace hS:=hS.fresh 51 rfl
 replace hS:=hS.turn 51 rfl (nilRow (T:=34) (sz:=3) (R:=rTx))
 refine loop_keep (σ:=(Nat)×(Value)×(List TxD)×(Value)×(List TxD)) [0,1,2,3,4,5,14,57,58] [0] (fun s=>[(59,.pv (.int .i64 (s.1:Int))),(12,.pv (.is s.2.1)),(13,.pv (.is s.2.2.2.1))]) (fun s=>[(50,.ob (.val s.2.1) (rowH 34 3 rTx s.2.2.1)),(51,.ob (.val s.2.2.2.1) (rowH 34 3 rTx s.2.2.2.2))]) (fun s=>s.1≤(keysK TxD.id was now old next).length∧(joinG TxD.id was now old next ((keysK TxD.id was now old next).take s.1)=some (s.2.2.1,s.2.2.2.2))) (fun s=>(keysK TxD.id was now old next).length - s.1) ((0),(.slice none 0 0),([]),(.slice none 0 0),([])) hS ⟨rfl,rfl,rfl,rfl,rfl,rfl,rfl,rfl,rfl,rfl,rfl,rfl,trivial⟩ ⟨rfl,rfl,rfl,trivial⟩ ⟨Nat.zero_le _,rfl⟩ ?_
 clear hS;intro s a w F hC hS
 obtain ⟨i,va,oa,vb,ob⟩:=s
 try dsimp only at hC
 obtain ⟨F,hS⟩:=hS.nm [59,58,57,14,13,12,5,4,3,2,1,0] [51,50,0] rfl rfl
 try dsimp only at hS
 obtain ⟨hi,hq⟩:=hC
 have hol:=joinG_len _ ([],[]) _ hq
 rw [List.length_take] at hol
 dsimp only [xM] at hol
 refine wp_seq ?_
 refine region_z hS (qf (o_lss .t .t) r2 qz qZ) hB [60,59,58,57,14,13,12,5,4,3,2,1,0] [51,50,0] rfl rfl ?_
 clear hS;intro a w F hS
 refine then_n (wp_seq ?_)
 refine cond_b hS rfl (fun hc2=>?_) (fun hc2=>?_)
 ·skip
  have hil:i<(keysK TxD.id was now old next).length:=by simp at hc2;omega
  refine wp_skip (then_n (wp_seq (wp_block (wp_seq ?_))))
  refine region_z hS (qf (o_indexAddr_sl (sz:=1) (.mk Tryz.underlying35 (by kernel_rfl)) (by intro x;rfl) .t .t (by omega) (by omega)) r2 qz (qf (oR false 1 .t) r1 qz (qN rfl rfl qZ))) hB [59,58,57,21,14,13,12,5,4,3,2,1,0] [51,50,0] rfl rfl ?_
  clear hS;intro a w F hS
  try simp only [Int.toNat_natCast] at hS
  refine then_n (wp_seq ?_)
  refine region_q hS (qM rfl rfl (qM rfl rfl (qM rfl rfl (qf (oP (seekT_c was (Go.Gm.nth (keysK TxD.id was now old next) i)) Tryz.func105 (Args.three .t .t .t)) r3 qz (qM rfl rfl (qf (o_extract .t rfl) r1 qz (qf (o_extract .t rfl) r1 qz (qf (oH [.int .i64 0,.bool false,.slice none 0 0] 103) trivial qz (qf (oA 3 103 .same (.conv .t .agg)) r2 r1 (qN rfl rfl qZ)))))))))) hB ?_
  clear hS;intro a w F hS
  replace hS:=hS.sub
  obtain ⟨F,hS⟩:=hS.nm [59,58,57,23,22,21,14,13,12,5,4,3,2,1,0] [103,51,50,0] rfl rfl
  try dsimp only [RS.sub,SF.sub,CF.sub,csub,Anc.sub,List.map,stCells,xL,xM,Nat.reduceAdd,xD,xE,xT,xU,xC,xN,zCF,rHist,rTx,rOrd,rVer,rInt,rOp,rDelta] at hS
  generalize Act.tau a 22=v22 at hS
  refine then_n (wp_seq ?_)
  refine region_q hS (qM rfl rfl (qM rfl rfl (qM rfl rfl (qf (oP (seekT_c now (Go.Gm.nth (keysK TxD.id was now old next) i)) Tryz.func105 (Args.three .t .t .t)) r3 qz (qM rfl rfl (qf (o_extract .t rfl) r1 qz (qf (o_extract .t rfl) r1 qz (qf (oH [.int .i64 0,.bool false,.slice none 0 0] 104) trivial qz (qf (oA 3 104 .same (.conv .t .agg)) r2 r1 (qN rfl rfl qZ)))))))))) hB ?_
  clear hS;intro a w F hS
  replace hS:=hS.sub
  obtain ⟨F,hS⟩:=hS.nm [59,58,57,25,24,23,22,21,14,13,12,5,4,3,2,1,0] [104,103,51,50,0] rfl rfl
  try dsimp only [RS.sub,SF.sub,CF.sub,csub,Anc.sub,List.map,stCells,xL,xM,Nat.reduceAdd,xD,xE,xT,xU,xC,xN,zCF,rHist,rTx,rOrd,rVer,rInt,rOp,rDelta] at hS
  generalize Act.tau a 24=v24 at hS
  refine then_n (wp_seq ?_)
  refine region_q hS (qM rfl rfl (qM rfl rfl (qM rfl rfl (qf (oP (seekT_c old (Go.Gm.nth (keysK TxD.id was now old next) i)) Tryz.func105 (Args.three .t .t .t)) r3 qz (qM rfl rfl (qf (o_extract .t rfl) r1 qz (qf (o_extract .t rfl) r1 qz (qf (oH [.int .i64 0,.bool false,.slice none 0 0] 105) trivial qz (qf (oA 3 105 .same (.conv .t .agg)) r2 r1 (qN rfl rfl qZ)))))))))) hB ?_
  clear hS;intro a w F hS
  replace hS:=hS.sub
  obtain ⟨F,hS⟩:=hS.nm [59,58,57,27,26,25,24,23,22,21,14,13,12,5,4,3,2,1,0] [105,104,103,51,50,0] rfl rfl
  try dsimp only [RS.sub,SF.sub,CF.sub,csub,Anc.sub,List.map,stCells,xL,xM,Nat.reduceAdd,xD,xE,xT,xU,xC,xN,zCF,rHist,rTx,rOrd,rVer,rInt,rOp,rDelta] at hS
  generalize Act.tau a 26=v26 at hS
  refine then_n (wp_seq ?_)
  refine region_q hS (qM rfl rfl (qM rfl rfl (qM rfl rfl (qf (oP (seekT_c next (Go.Gm.nth (keysK TxD.id was now old next) i)) Tryz.func105 (Args.three .t .t .t)) r3 qz (qM rfl rfl (qf (o_extract .t rfl) r1 qz (qf (o_extract .t rfl) r1 qz (qf (oH [.int .i64 0,.bool false,.slice none 0 0] 106) trivial qz (qf (oA 3 106 .same (.conv .t .agg)) r2 r1 (qN rfl rfl qZ)))))))))) hB ?_
  clear hS;intro a w F hS
  replace hS:=hS.sub
  obtain ⟨F,hS⟩:=hS.nm [59,58,57,29,28,27,26,25,24,23,22,14,13,12,5,4,3,2,1,0] [106,105,104,103,51,50,0] rfl rfl
  try dsimp only [RS.sub,SF.sub,CF.sub,csub,Anc.sub,List.map,stCells,xL,xM,Nat.reduceAdd,xD,xE,xT,xU,xC,xN,zCF,rHist,rTx,rOrd,rVer,rInt,rOp,rDelta] at hS
  generalize Act.tau a 28=v28 at hS
  refine then_n (wp_seq ?_)
  refine region_z hS (qM rfl rfl (qM rfl rfl (qm rfl rfl rfl rfl (qf (o_or2 .t .t) r2 qz (qM rfl rfl (qM rfl rfl (qm rfl rfl rfl rfl (qf (o_or2 .t .t) r2 qz (qN rfl rfl (qN rfl rfl qZ)))))))))) hB [59,58,57,31,30,29,28,27,26,25,24,23,22,14,13,12,5,4,3,2,1,0] [106,105,104,103,51,50,0] rfl rfl ?_
  clear hS;intro a w F hS
  refine then_n (wp_seq ?_)
  refine join_keep (σ:=Option TxD×Option TxD) [0,1,2,3,4,5,12,13,14,22,28,57,58,59] [0,50,51,104,105] (fun s=>[(23,.pv (.bool (s.1).isSome)),(29,.pv (.bool (s.2).isSome))]) (fun s=>[(103,.pt (.val v22) 34 [.pv (.int .i64 ((s.1).getD zeroT).id),.pv (.bool ((s.1).getD zeroT).done),.pv (.sl rOp ((s.1).getD zeroT).ops)]),(106,.pt (.val v28) 34 [.pv (.int .i64 ((s.2).getD zeroT).id),.pv (.bool ((s.2).getD zeroT).done),.pv (.sl rOp ((s.2).getD zeroT).ops)])]) (fun s=>joinS TxD.id was now old next (Go.Gm.nth (keysK TxD.id was now old next) i)=some (s.1,s.2)) hS ?_ ?_
  ·skip
   refine wp_block (wp_seq ?_)
   refine region_z hS (qM rfl rfl (qM rfl rfl (qm rfl rfl rfl rfl (qf (o_and2 .t .t) r2 qz (qM rfl rfl (qm rfl rfl rfl rfl (qm rfl rfl rfl rfl (qk rfl (fun h=>o_neqB Tryz.underlying4 (.w h) (.w h)) r3 qz (qk rfl (fun h=>oM (.w h)) r2 qz (Chain.cons (Cert.cond2 rfl rfl (fun h=>o_move .t (by rfl))) r2 qz (Chain.cons (Cert.cond2 rfl rfl (fun h=>o_move (.w h) (by rfl))) r2 qz (Chain.cons (Cert.cond2 rfl rfl (fun h=>o_move .t (by rfl))) r2 qz (Chain.cons (Cert.cond2 rfl rfl (fun h=>o_load (ag:=true) (sz:=3) 104 .is (by kernel_rfl) (by kernel_rfl) (by kernel_rfl) (by rfl))) r2 r1 (Chain.cons (Cert.cond2 rfl rfl (fun h=>o_load (ag:=true) (sz:=3) 105 .is (by kernel_rfl) (by kernel_rfl) (by kernel_rfl) (by rfl))) r2 r1 (Chain.cons (Cert.cond2 rfl rfl (fun h=>o_callClosP (avs:=[.agg (rTx ((seekK TxD.id now (Go.Gm.nth (keysK TxD.id was now old next) i)).getD zeroT)),.agg (rTx ((seekK TxD.id old (Go.Gm.nth (keysK TxD.id was now old next) i)).getD zeroT))]) (.w h) (txSame_c ((seekK TxD.id now (Go.Gm.nth (keysK TxD.id was now old next) i)).getD zeroT) ((seekK TxD.id old (Go.Gm.nth (keysK TxD.id was now old next) i)).getD zeroT)) Tryz.func52 rfl (by kernel_rfl) (Args.two (.pagg (.w h)) (.pagg (.w h))))) r4 qz (Chain.cons (Cert.cond2 rfl rfl (fun h=>o_not (.w h))) r2 qz (Chain.cons (Cert.cond2 rfl rfl (fun h=>o_and2 (.w h) (.wc h))) r3 qz (qk rfl (fun h=>o_or2 (.w h) (.wc h)) r3 qz (qf (o_and2 .t .t) r2 qz (qN rfl rfl qZ)))))))))))))))))))) hB [99,59,58,57,31,30,29,28,27,26,25,24,23,22,14,13,12,5,4,3,2,1,0] [106,105,104,103,51,50,0] rfl rfl ?_
   clear hS;intro a w F hS
   try dsimp only [List.map,xD,xE,xT,xU,ldSF,rHist,rTx,rOrd,rVer,rInt,rOp,rDelta] at hS
   refine then_n ?_
   refine cond_b hS rfl (fun hc3=>?_) (fun hc3=>?_)
   ·skip
    have h9:(((((seekK TxD.id was (Go.Gm.nth (keysK TxD.id was now old next) i)).isSome || (seekK TxD.id now (Go.Gm.nth (keysK TxD.id was now old next) i)).isSome) && ((seekK TxD.id old (Go.Gm.nth (keysK TxD.id was now old next) i)).isSome || (seekK TxD.id next (Go.Gm.nth (keysK TxD.id was now old next) i)).isSome)) && (((seekK TxD.id now (Go.Gm.nth (keysK TxD.id was now old next) i)).isSome != (seekK TxD.id old (Go.Gm.nth (keysK TxD.id was now old next) i)).isSome) || ((seekK TxD.id now (Go.Gm.nth (keysK TxD.id was now old next) i)).isSome && !decide ((seekK TxD.id now (Go.Gm.nth (keysK TxD.id was now old next) i)).getD zeroT=(seekK TxD.id old (Go.Gm.nth (keysK TxD.id was now old next) i)).getD zeroT)))))=true:=hc3
    rw [opt_ne] at h9
    have hjn:joinS TxD.id was now old next (Go.Gm.nth (keysK TxD.id was now old next) i)=none:=by unfold joinS;rw [if_pos (by simpa [and_assoc] using h9)]
    have hg:joinR TxD.id was now old next=([],[],false):=by unfold joinR joinK;rw [joinG_none (i:=i+1) (by rw [joinG_step hil hq,hjn];rfl)]
    refine wp_seq ?_
    refine region_z hS (qf (oN (.c rfl)) trivial qz (qf (oN (.c rfl)) trivial qz (qf (oN .cb) trivial qz qZ))) hB [59,58,57,29,28,23,22,14,13,12,5,4,3,2,1,0] [106,105,104,103,51,50,0] rfl rfl ?_
    clear hS;intro a w F hS
    refine then_n (wp_ret (block_r (then_r (block_r (then_r (then_r (block_r (then_r ?_))))))))
    refine ret_P hfr hS rfl (.tmp rfl (.tmp rfl (.tmp rfl .nil))) (.three (.trans .nilSl (.sl (by rw [hg]))) (.trans .nilSl (.sl (by rw [hg]))) (.bool (by rw [hg])))
   have h9:(((((seekK TxD.id was (Go.Gm.nth (keysK TxD.id was now old next) i)).isSome || (seekK TxD.id now (Go.Gm.nth (keysK TxD.id was now old next) i)).isSome) && ((seekK TxD.id old (Go.Gm.nth (keysK TxD.id was now old next) i)).isSome || (seekK TxD.id next (Go.Gm.nth (keysK TxD.id was now old next) i)).isSome)) && (((seekK TxD.id now (Go.Gm.nth (keysK TxD.id was now old next) i)).isSome != (seekK TxD.id old (Go.Gm.nth (keysK TxD.id was now old next) i)).isSome) || ((seekK TxD.id now (Go.Gm.nth (keysK TxD.id was now old next) i)).isSome && !decide ((seekK TxD.id now (Go.Gm.nth (keysK TxD.id was now old next) i)).getD zeroT=(seekK TxD.id old (Go.Gm.nth (keysK TxD.id was now old next) i)).getD zeroT)))))=false:=hc3
   rw [opt_ne] at h9
   have hjn:joinS TxD.id was now old next (Go.Gm.nth (keysK TxD.id was now old next) i)=some (if ((seekK TxD.id was (Go.Gm.nth (keysK TxD.id was now old next) i)).isSome || (seekK TxD.id now (Go.Gm.nth (keysK TxD.id was now old next) i)).isSome)=true then (seekK TxD.id was (Go.Gm.nth (keysK TxD.id was now old next) i)) else (seekK TxD.id old (Go.Gm.nth (keysK TxD.id was now old next) i)),if ((seekK TxD.id old (Go.Gm.nth (keysK TxD.id was now old next) i)).isSome || (seekK TxD.id next (Go.Gm.nth (keysK TxD.id was now old next) i)).isSome)=true then (seekK TxD.id next (Go.Gm.nth (keysK TxD.id was now old next) i)) else (seekK TxD.id now (Go.Gm.nth (keysK TxD.id was now old next) i))):=by unfold joinS;rw [if_neg (by rintro ⟨e1,e2,e3⟩;rw [e1,e2,decide_eq_true e3] at h9;cases h9)]
   refine wp_seq ?_
   refine region_z hS (qM rfl rfl (qf (o_not .t) r1 qz (qN rfl rfl qZ))) hB [119,59,58,57,31,29,28,27,26,25,24,23,22,14,13,12,5,4,3,2,1,0] [106,105,104,103,51,50,0] rfl rfl ?_
   clear hS;intro a w F hS
   refine then_n ?_
   refine cond_b hS rfl (fun hc4=>?_) (fun hc4=>?_)
   ·skip
    have h8:((seekK TxD.id was (Go.Gm.nth (keysK TxD.id was now old next) i)).isSome || (seekK TxD.id now (Go.Gm.nth (keysK TxD.id was now old next) i)).isSome)=false:=not_tr hc4
    have hjs:joinS TxD.id was now old next (Go.Gm.nth (keysK TxD.id was now old next) i)=some ((seekK TxD.id old (Go.Gm.nth (keysK TxD.id was now old next) i)),(seekK TxD.id next (Go.Gm.nth (keysK TxD.id was now old next) i))):=by
      rw [hjn,if_neg (by rw [h8];exact Bool.false_ne_true)]
      by_cases h7:((seekK TxD.id old (Go.Gm.nth (keysK TxD.id was now old next) i)).isSome || (seekK TxD.id next (Go.Gm.nth (keysK TxD.id was now old next) i)).isSome)=true
      · rw [if_pos h7]
      · rw [if_neg h7]
        have e1:(seekK TxD.id next (Go.Gm.nth (keysK TxD.id was now old next) i))=none:=by cases e:(seekK TxD.id next (Go.Gm.nth (keysK TxD.id was now old next) i)) with | none=>rfl | some v=>rw [e] at h7;simp at h7
        have e2:(seekK TxD.id now (Go.Gm.nth (keysK TxD.id was now old next) i))=none:=by cases e:(seekK TxD.id now (Go.Gm.nth (keysK TxD.id was now old next) i)) with | none=>rfl | some v=>rw [e] at h8;simp at h8
        rw [e1,e2]
    refine region_z hS (qf (oL true 3 105 .is) r1 r1 (qM rfl rfl (qf (oA 3 103 .is .t) r2 r1 (qN rfl rfl qZ)))) hB [59,58,57,29,28,23,22,14,13,12,5,4,3,2,1,0] [106,105,104,103,51,50,0] rfl rfl ?_
    clear hS;intro a w F hS
    refine block_n (then_n ?_)
    obtain ⟨F,hS⟩:=hS.nm [59,58,57,28,22,14,13,12,5,4,3,2,1,0,29,23] [105,104,51,50,0,106,103] rfl rfl
    exact ⟨(_,_),F,hjs,hS⟩
   have h8:((seekK TxD.id was (Go.Gm.nth (keysK TxD.id was now old next) i)).isSome || (seekK TxD.id now (Go.Gm.nth (keysK TxD.id was now old next) i)).isSome)=true:=not_fl hc4
   refine wp_seq ?_
   refine region_z hS (qM rfl rfl (qf (o_not .t) r1 qz (qN rfl rfl qZ))) hB [124,59,58,57,29,28,25,24,23,22,14,13,12,5,4,3,2,1,0] [106,105,104,103,51,50,0] rfl rfl ?_
   clear hS;intro a w F hS
   refine then_n ?_
   refine cond_b hS rfl (fun hc5=>?_) (fun hc5=>?_)
   ·skip
    have h7:((seekK TxD.id old (Go.Gm.nth (keysK TxD.id was now old next) i)).isSome || (seekK TxD.id next (Go.Gm.nth (keysK TxD.id was now old next) i)).isSome)=false:=not_tr hc5
    have hjs:joinS TxD.id was now old next (Go.Gm.nth (keysK TxD.id was now old next) i)=some ((seekK TxD.id was (Go.Gm.nth (keysK TxD.id was now old next) i)),(seekK TxD.id now (Go.Gm.nth (keysK TxD.id was now old next) i))):=by rw [hjn,if_pos h8,if_neg (by rw [h7];exact Bool.false_ne_true)]
    refine region_z hS (qf (oL true 3 104 .is) r1 r1 (qM rfl rfl (qf (oA 3 106 .is .t) r2 r1 (qN rfl rfl qZ)))) hB [59,58,57,29,28,23,22,14,13,12,5,4,3,2,1,0] [106,105,104,103,51,50,0] rfl rfl ?_
    clear hS;intro a w F hS
    refine block_n (then_n ?_)
    obtain ⟨F,hS⟩:=hS.nm [59,58,57,28,22,14,13,12,5,4,3,2,1,0,29,23] [105,104,51,50,0,106,103] rfl rfl
    exact ⟨(_,_),F,hjs,hS⟩
   have h7:((seekK TxD.id old (Go.Gm.nth (keysK TxD.id was now old next) i)).isSome || (seekK TxD.id next (Go.Gm.nth (keysK TxD.id was now old next) i)).isSome)=true:=not_fl hc5
   have hjs:joinS TxD.id was now old next (Go.Gm.nth (keysK TxD.id was now old next) i)=some ((seekK TxD.id was (Go.Gm.nth (keysK TxD.id was now old next) i)),(seekK TxD.id next (Go.Gm.nth (keysK TxD.id was now old next) i))):=by rw [hjn,if_pos h8,if_pos h7]
   refine wp_skip (block_n (then_n ?_))
   obtain ⟨F,hS⟩:=hS.nm [59,58,57,28,22,14,13,12,5,4,3,2,1,0,29,23] [105,104,51,50,0,106,103] rfl rfl
   exact ⟨(_,_),F,hjs,hS⟩
  clear hS;intro s a w F hC hS
  obtain ⟨P,Z⟩:=s
  try dsimp only at hC
  obtain ⟨F,hS⟩:=hS.nm [59,58,57,29,28,23,22,14,13,12,5,4,3,2,1,0] [106,105,104,103,51,50,0] rfl rfl
  try dsimp only at hS
  have hjs:=hC
  refine wp_seq (wp_seq ?_)
  refine region_z hS (qM rfl rfl (qM rfl rfl (qf (o_eqlB Tryz.underlying4 .t .t) r2 qz (qM rfl rfl (qm rfl rfl rfl rfl (qk rfl (fun h=>o_not (.w h)) r2 qz (qk rfl (fun h=>oM (.w h)) r2 qz (Chain.cons (Cert.cond2 rfl rfl (fun h=>o_move .t (by rfl))) r2 qz (Chain.cons (Cert.cond2 rfl rfl (fun h=>o_load (ag:=true) (sz:=3) 103 .is (by kernel_rfl) (by kernel_rfl) (by kernel_rfl) (by rfl))) r2 r1 (Chain.cons (Cert.cond2 rfl rfl (fun h=>o_load (ag:=true) (sz:=3) 106 .is (by kernel_rfl) (by kernel_rfl) (by kernel_rfl) (by rfl))) r2 r1 (Chain.cons (Cert.cond2 rfl rfl (fun h=>o_callClosP (avs:=[.agg (rTx (P.getD zeroT)),.agg (rTx (Z.getD zeroT))]) (.w h) (txSame_c (P.getD zeroT) (Z.getD zeroT)) Tryz.func52 rfl (by kernel_rfl) (Args.two (.pagg (.w h)) (.pagg (.w h))))) r4 qz (qk rfl (fun h=>o_or2 (.w h) (.wc h)) r3 qz (qf (o_and2 .t .t) r2 qz qZ))))))))))))) hB [141,59,58,57,29,28,23,22,14,13,12,5,4,3,2,1,0] [106,105,104,103,51,50,0] rfl rfl ?_
  clear hS;intro a w F hS
  try dsimp only [List.map,xD,xE,xT,xU,ldSF,rHist,rTx,rOrd,rVer,rInt,rOp,rDelta] at hS
  refine then_n ?_
  refine cond_b hS rfl (fun hc6=>?_) (fun hc6=>?_)
  ·skip
   have h9:((P.isSome == Z.isSome) && (!P.isSome || decide (P.getD zeroT=Z.getD zeroT)))=true:=hc6
   rw [opt_eq,decide_eq_true_eq] at h9
   have hst9:joinG TxD.id was now old next ((keysK TxD.id was now old next).take (i+1))=some (oa,ob):=by rw [joinG_step hil hq,hjs];show some (joinP (oa,ob) (P,Z))=_;unfold joinP;rw [if_pos h9]
   refine wp_exit (then_x (block_x (then_n ?_)))
   refine region_z hS (qf (o_add .t qi) r1 qz (qM rfl rfl qZ)) hB [59,58,57,14,13,12,5,4,3,2,1,0] [106,105,104,103,51,50,0] rfl rfl ?_
   clear hS;intro a w F hS
   refine then_n ?_
   replace hS:=hS.ent (i:=59) (s':=.pv (.int .i64 ((i+1:Nat):Int))) rfl (.int (wrap_succ (by omega)))
   obtain ⟨F,hS⟩:=hS.nm [58,57,14,5,4,3,2,1,0,13,12,59] [0,51,50] rfl rfl
   exact ⟨((i+1),_,_,_,_),F,⟨by omega,hst9⟩,hS,by omega⟩
  have h9:((P.isSome == Z.isSome) && (!P.isSome || decide (P.getD zeroT=Z.getD zeroT)))=false:=hc6
  rw [opt_eq,decide_eq_false_iff_not] at h9
  refine wp_skip (then_n (wp_seq (wp_seq ?_)))
  refine region_z hS (qM rfl rfl qZ) hB [142,59,58,57,29,28,22,14,13,12,5,4,3,2,1,0] [106,105,104,103,51,50,0] rfl rfl ?_
  clear hS;intro a w F hS
  refine then_n ?_
  refine cond_b hS rfl (fun hc7=>?_) (fun hc7=>?_)
  ·skip
   obtain ⟨la,lae⟩:∃ z,z=oa ++ [P.getD zeroT]:=⟨_,rfl⟩
   have hla2:la=oa++P.toList:=by rw [lae];have h8:=hc7;cases P with | none=>simp at h8 | some v=>rfl
   refine region_q hS (qM rfl rfl (qf (oL true 3 103 .is) r1 r1 (qf (o_buildSliceE (sz:=3) (zs:=[.int .i64 0,.bool false,.slice none 0 0]) (r:=[(0,.tmp 144)]) (l:=[_,_,_]) Tryz.underlying27 (by kernel_rfl) (by kernel_rfl) (by kernel_rfl) (by kernel_rfl) rfl rfl (.agg rfl .t (by kernel_rfl) (by kernel_rfl) .nil) rfl) r1 qz (qf (o_append (sz:=3) (bs:=40) 50 (.mk' Tryz.underlying27 (by kernel_rfl) (by kernel_rfl)) (by intro x;rfl) .is (.arr (l':=[(P.getD zeroT)]) .t) (by simp only [List.length_append,List.length_cons,List.length_nil];omega) (by decide)) ⟨rfl,rfl,trivial⟩ ⟨rfl,trivial⟩ (qN rfl rfl qZ))))) hB ?_
   clear hS;intro a w F hS
   replace hS:=hS.sub
   obtain ⟨F,hS⟩:=hS.nm [59,58,57,29,28,14,13,12,5,4,3,2,1,0] [106,105,104,103,51,50,0] rfl rfl
   try dsimp only [RS.sub,SF.sub,CF.sub,csub,Anc.sub,List.map,stCells,xL,xM,Nat.reduceAdd,xD,xE,xT,xU,xC,xN,zCF,ldSF,rHist,rTx,rOrd,rVer,rInt,rOp,rDelta] at hS
   generalize Act.tau a 146=v146 at hS
   rw [← lae] at hS
   refine then_n (wp_seq ?_)
   refine region_z hS (qM rfl rfl qZ) hB [147,59,58,57,28,14,13,12,5,4,3,2,1,0] [106,105,104,103,51,50,0] rfl rfl ?_
   clear hS;intro a w F hS
   refine then_n ?_
   refine cond_b hS rfl (fun hc8=>?_) (fun hc8=>?_)
   ·skip
    obtain ⟨lb,lbe⟩:∃ z,z=ob ++ [Z.getD zeroT]:=⟨_,rfl⟩
    have hlb2:lb=ob++Z.toList:=by rw [lbe];have h8:=hc8;cases Z with | none=>simp at h8 | some v=>rfl
    have hst9:joinG TxD.id was now old next ((keysK TxD.id was now old next).take (i+1))=some (la,lb):=by rw [joinG_step hil hq,hjs];show some (joinP (oa,ob) (P,Z))=_;unfold joinP;rw [if_neg h9,hla2,hlb2]
    refine region_q hS (qM rfl rfl (qf (oL true 3 106 .is) r1 r1 (qf (o_buildSliceE (sz:=3) (zs:=[.int .i64 0,.bool false,.slice none 0 0]) (r:=[(0,.tmp 149)]) (l:=[_,_,_]) Tryz.underlying27 (by kernel_rfl) (by kernel_rfl) (by kernel_rfl) (by kernel_rfl) rfl rfl (.agg rfl .t (by kernel_rfl) (by kernel_rfl) .nil) rfl) r1 qz (qf (o_append (sz:=3) (bs:=40) 51 (.mk' Tryz.underlying27 (by kernel_rfl) (by kernel_rfl)) (by intro x;rfl) .is (.arr (l':=[(Z.getD zeroT)]) .t) (by simp only [List.length_append,List.length_cons,List.length_nil];omega) (by decide)) ⟨rfl,rfl,trivial⟩ ⟨rfl,trivial⟩ (qN rfl rfl qZ))))) hB ?_
    clear hS;intro a w F hS
    replace hS:=hS.sub
    obtain ⟨F,hS⟩:=hS.nm [59,58,57,14,13,12,5,4,3,2,1,0] [106,105,104,103,51,50,0] rfl rfl
    try dsimp only [RS.sub,SF.sub,CF.sub,csub,Anc.sub,List.map,stCells,xL,xM,Nat.reduceAdd,xD,xE,xT,xU,xC,xN,zCF,ldSF,rHist,rTx,rOrd,rVer,rInt,rOp,rDelta] at hS
    generalize Act.tau a 151=v151 at hS
    rw [← lbe] at hS
    refine block_n (then_n ?_)
    refine region_z hS (qf (o_add .t qi) r1 qz (qM rfl rfl qZ)) hB [59,58,57,14,13,12,5,4,3,2,1,0] [106,105,104,103,51,50,0] rfl rfl ?_
    clear hS;intro a w F hS
    refine then_n ?_
    replace hS:=hS.ent (i:=59) (s':=.pv (.int .i64 ((i+1:Nat):Int))) rfl (.int (wrap_succ (by omega)))
    obtain ⟨F,hS⟩:=hS.nm [58,57,14,5,4,3,2,1,0,13,12,59] [0,51,50] rfl rfl
    exact ⟨((i+1),_,_,_,_),F,⟨by omega,hst9⟩,hS,by omega⟩
   obtain ⟨lb,lbe⟩:∃ z,z=ob:=⟨_,rfl⟩
   rw [← lbe] at hS
   have hlb2:lb=ob++Z.toList:=by rw [lbe];have h8:=hc8;cases Z with | some v=>simp at h8 | none=>simp
   have hst9:joinG TxD.id was now old next ((keysK TxD.id was now old next).take (i+1))=some (la,lb):=by rw [joinG_step hil hq,hjs];show some (joinP (oa,ob) (P,Z))=_;unfold joinP;rw [if_neg h9,hla2,hlb2]
   refine wp_skip (block_n (then_n ?_))
   refine region_z hS (qf (o_add .t qi) r1 qz (qM rfl rfl qZ)) hB [59,58,57,14,13,12,5,4,3,2,1,0] [106,105,104,103,51,50,0] rfl rfl ?_
   clear hS;intro a w F hS
   refine then_n ?_
   replace hS:=hS.ent (i:=59) (s':=.pv (.int .i64 ((i+1:Nat):Int))) rfl (.int (wrap_succ (by omega)))
   obtain ⟨F,hS⟩:=hS.nm [58,57,14,5,4,3,2,1,0,13,12,59] [0,51,50] rfl rfl
   exact ⟨((i+1),_,_,_,_),F,⟨by omega,hst9⟩,hS,by omega⟩
  obtain ⟨la,lae⟩:∃ z,z=oa:=⟨_,rfl⟩
  rw [← lae] at hS
  have hla2:la=oa++P.toList:=by rw [lae];have h8:=hc7;cases P with | some v=>simp at h8 | none=>simp
  refine wp_skip (then_n (wp_seq ?_))
  refine region_z hS (qM rfl rfl qZ) hB [147,59,58,57,28,14,13,12,5,4,3,2,1,0] [106,105,104,103,51,50,0] rfl rfl ?_
  clear hS;intro a w F hS
  refine then_n ?_
  refine cond_b hS rfl (fun hc9=>?_) (fun hc9=>?_)
  ·skip
   obtain ⟨lb,lbe⟩:∃ z,z=ob ++ [Z.getD zeroT]:=⟨_,rfl⟩
   have hlb2:lb=ob++Z.toList:=by rw [lbe];have h8:=hc9;cases Z with | none=>simp at h8 | some v=>rfl
   have hst9:joinG TxD.id was now old next ((keysK TxD.id was now old next).take (i+1))=some (la,lb):=by rw [joinG_step hil hq,hjs];show some (joinP (oa,ob) (P,Z))=_;unfold joinP;rw [if_neg h9,hla2,hlb2]
   refine region_q hS (qM rfl rfl (qf (oL true 3 106 .is) r1 r1 (qf (o_buildSliceE (sz:=3) (zs:=[.int .i64 0,.bool false,.slice none 0 0]) (r:=[(0,.tmp 149)]) (l:=[_,_,_]) Tryz.underlying27 (by kernel_rfl) (by kernel_rfl) (by kernel_rfl) (by kernel_rfl) rfl rfl (.agg rfl .t (by kernel_rfl) (by kernel_rfl) .nil) rfl) r1 qz (qf (o_append (sz:=3) (bs:=40) 51 (.mk' Tryz.underlying27 (by kernel_rfl) (by kernel_rfl)) (by intro x;rfl) .is (.arr (l':=[(Z.getD zeroT)]) .t) (by simp only [List.length_append,List.length_cons,List.length_nil];omega) (by decide)) ⟨rfl,rfl,trivial⟩ ⟨rfl,trivial⟩ (qN rfl rfl qZ))))) hB ?_
   clear hS;intro a w F hS
   replace hS:=hS.sub
   obtain ⟨F,hS⟩:=hS.nm [59,58,57,14,13,12,5,4,3,2,1,0] [106,105,104,103,51,50,0] rfl rfl
   try dsimp only [RS.sub,SF.sub,CF.sub,csub,Anc.sub,List.map,stCells,xL,xM,Nat.reduceAdd,xD,xE,xT,xU,xC,xN,zCF,ldSF,rHist,rTx,rOrd,rVer,rInt,rOp,rDelta] at hS
   generalize Act.tau a 151=v151 at hS
   rw [← lbe] at hS
   refine block_n (then_n ?_)
   refine region_z hS (qf (o_add .t qi) r1 qz (qM rfl rfl qZ)) hB [59,58,57,14,13,12,5,4,3,2,1,0] [106,105,104,103,51,50,0] rfl rfl ?_
   clear hS;intro a w F hS
   refine then_n ?_
   replace hS:=hS.ent (i:=59) (s':=.pv (.int .i64 ((i+1:Nat):Int))) rfl (.int (wrap_succ (by omega)))
   obtain ⟨F,hS⟩:=hS.nm [58,57,14,5,4,3,2,1,0,13,12,59] [0,51,50] rfl rfl
   exact ⟨((i+1),_,_,_,_),F,⟨by omega,hst9⟩,hS,by omega⟩
  obtain ⟨lb,lbe⟩:∃ z,z=ob:=⟨_,rfl⟩
  rw [← lbe] at hS
  have hlb2:lb=ob++Z.toList:=by rw [lbe];have h8:=hc9;cases Z with | some v=>simp at h8 | none=>simp
  have hst9:joinG TxD.id was now old next ((keysK TxD.id was now old next).take (i+1))=some (la,lb):=by rw [joinG_step hil hq,hjs];show some (joinP (oa,ob) (P,Z))=_;unfold joinP;rw [if_neg h9,hla2,hlb2]
  refine wp_skip (block_n (then_n ?_))
  refine region_z hS (qf (o_add .t qi) r1 qz (qM rfl rfl qZ)) hB [59,58,57,14,13,12,5,4,3,2,1,0] [106,105,104,103,51,50,0] rfl rfl ?_
  clear hS;intro a w F hS
  refine then_n ?_
  replace hS:=hS.ent (i:=59) (s':=.pv (.int .i64 ((i+1:Nat):Int))) rfl (.int (wrap_succ (by omega)))
  obtain ⟨F,hS⟩:=hS.nm [58,57,14,5,4,3,2,1,0,13,12,59] [0,51,50] rfl rfl
  exact ⟨((i+1),_,_,_,_),F,⟨by omega,hst9⟩,hS,by omega⟩
 have hil:i=(keysK TxD.id was now old next).length:=by simp at hc2;omega
 have hg:joinR TxD.id was now old next=(oa,ob,true):=by unfold joinR joinK;rw [hil,List.take_length] at hq;rw [hq]
 refine wp_exit (then_x (then_x (block_x (then_n (wp_seq ?_)))))
 refine region_z hS (qM rfl rfl (qM rfl rfl (qN rfl rfl (qN rfl rfl (qf (oN .cb) trivial qz qZ))))) hB [14,13,12] [51,50,0] rfl rfl ?_
 clear hS;intro a w F hS
 refine then_n (wp_ret ?_)
 obtain ⟨F,hS⟩:=hS.give 50 12 rfl rfl
 obtain ⟨F,hS⟩:=hS.give 51 13 rfl rfl
 refine ret_P hfr hS rfl (.tmp rfl (.tmp rfl (.tmp rfl .nil))) (.three (.sl (by rw [hg])) (.sl (by rw [hg])) (.bool (by rw [hg])))
theorem bothR_c (was now old next:List OrdD) (hw:was.length≤1000) (hn:now.length≤1000) (ho:old.length≤1000) (hx:next.length≤1000):FnP Tryz.prog 71 [.sl rOrd was,.sl rOrd now,.sl rOrd old,.sl rOrd next,.clos 54 [],.clos 55 []] (.tup [.sl rOrd (joinR OrdD.key was now old next).1,.sl rOrd (joinR OrdD.key was now old next).2.1,.bool (joinR OrdD.key was now old next).2.2]):=by
 refine FnP.mk Tryz.func71 rfl Tryz.ntmps71 rfl ?_
 intro B a w F hB hfr hS
 refine wp_seq ?_
 refine region_z hS (qf (oN (.c rfl)) trivial qz (qf (oN (.c rfl)) trivial qz (qf (oN .cb) trivial qz qZ))) hB [14,13,12,5,4,3,2,1,0] [0] rfl rfl ?_
 clear hS;intro a w F hS
 refine then_n (wp_seq ?_)
 refine region_q hS (qf (o_makeMapG (ek:=(fun c:Int=>PV.int .i64 c)) (ok:=(fun n:Int=>inR .i64 n)) (kv:=(fun n:Int=>Value.int .i64 n)) 101) trivial qz (qN rfl rfl qZ)) hB ?_
 clear hS;intro a w F hS
 replace hS:=hS.sub
 obtain ⟨F,hS⟩:=hS.nm [15,14,13,12,5,4,3,2,1,0] [101,0] rfl rfl
 try dsimp only [RS.sub,SF.sub,CF.sub,csub,Anc.sub,List.map,stCells,xL,xM,Nat.reduceAdd,xD,xE,xT,xU,xC,xN,zCF,rHist,rTx,rOrd,rVer,rInt,rOp,rDelta] at hS
 generalize Act.tau a 32=v32 at hS
 refine then_n (wp_seq (wp_seq ?_))
 refine region_z hS (qM rfl rfl (qM rfl rfl (qM rfl rfl (qM rfl rfl (qf (o_buildA (sz:=1) (r:=[(0,.tmp 33),(1,.tmp 34),(2,.tmp 35),(3,.tmp 36)]) (zs:=[.slice none 0 0,.slice none 0 0,.slice none 0 0,.slice none 0 0]) (pl:=[(0,1),(1,1),(2,1),(3,1)]) Tryz.underlying141 (by kernel_rfl) (by kernel_rfl) rfl (.one rfl .t one_sl (by kernel_rfl) (.one rfl .t one_sl (by kernel_rfl) (.one rfl .t one_sl (by kernel_rfl) (.one rfl .t one_sl (by kernel_rfl) .nil)))) (by rfl)) r4 qz (qf (oM qi) trivial qz qZ)))))) hB [38,37,15,14,13,12,5,4,3,2,1,0] [101,0] rfl rfl ?_
 clear hS;intro a w F hS
 refine then_n (wp_block ?_)
 refine loop_keep (σ:=Nat×List (GE Int Int)×Nat) [0,1,2,3,4,5,12,13,14,15,37] [0] (fun s=>[(38,.pv (.int .i64 (s.1:Int)))]) (fun s=>[(101,.ob (.val v32) (MPI s.2.1 s.2.2))]) (fun s=>s.1≤4∧KSet s.2.1 ((([was,now,old,next].take s.1).flatten).map OrdD.key)) (fun s=>4 - s.1) ((0),([]),(0)) hS ⟨rfl,rfl,rfl,rfl,rfl,rfl,rfl,rfl,rfl,rfl,rfl,rfl,trivial⟩ ⟨rfl,rfl,trivial⟩ ⟨Nat.zero_le _,KSet.nil⟩ ?_
 clear hS;intro s a w F hC hS
 obtain ⟨i,es,ck⟩:=s
 try dsimp only at hC
 obtain ⟨F,hS⟩:=hS.nm [38,37,15,14,13,12,5,4,3,2,1,0] [101,0] rfl rfl
 try dsimp only at hS
 obtain ⟨hi4,hK⟩:=hC
 refine wp_seq ?_
 refine region_z hS (qf (o_lss .t qi) r1 qz qZ) hB [39,38,37,15,14,13,12,5,4,3,2,1,0] [101,0] rfl rfl ?_
 clear hS;intro a w F hS
 refine then_n (wp_seq ?_)
 refine cond_b hS rfl (fun hc0=>?_) (fun hc0=>?_)
 ·skip
  have hi4:i<4:=by simp at hc0;omega
  refine wp_skip (then_n (wp_seq (wp_block (wp_seq ?_))))
  refine region_z hS (qf (o_index_one (l:=[was,now,old,next]) (p:=(fun y=>PV.sl rOrd y)) Tryz.underlying141 (by kernel_rfl) (by kernel_rfl) (.conv .t (.aggU rfl rfl)) .t (by omega) (by omega) rfl) r2 qz (qN rfl rfl qZ)) hB [38,37,17,15,14,13,12,5,4,3,2,1,0] [101,0] rfl rfl ?_
  clear hS;intro a w F hS
  try simp only [Int.toNat_natCast] at hS
  obtain ⟨lc,lce⟩:∃ z,z=Go.Gm.nth [was,now,old,next] i:=⟨_,rfl⟩
  try dsimp only at hS
  rw [← lce] at hS
  have hlc:lc.length≤1000:=by rw [lce];rcases i with _ | _ | _ | _ | i;exact hw;exact hn;exact ho;exact hx;omega
  refine then_n (wp_seq ?_)
  refine region_z hS (qM rfl rfl (qf (o_len_sl Tryz.underlying28 .t) r1 qz (qf (oM qi) trivial qz qZ))) hB [43,42,41,38,37,15,14,13,12,5,4,3,2,1,0] [101,0] rfl rfl ?_
  clear hS;intro a w F hS
  refine then_n (wp_block ?_)
  refine loop_keep (σ:=(Nat)×(List (GE Int Int))×(Nat)) [0,1,2,3,4,5,12,13,14,15,37,38,41,42] [0] (fun s=>[(43,.pv (.int .i64 (s.1:Int)))]) (fun s=>[(101,.ob (.val v32) (MPI s.2.1 s.2.2))]) (fun s=>s.1≤lc.length∧(KSet s.2.1 ((([was,now,old,next].take i).flatten++lc.take s.1).map OrdD.key))) (fun s=>lc.length - s.1) ((0),(es),(ck)) hS ⟨rfl,rfl,rfl,rfl,rfl,rfl,rfl,rfl,rfl,rfl,rfl,rfl,rfl,rfl,rfl,trivial⟩ ⟨rfl,rfl,trivial⟩ ⟨Nat.zero_le _,(by simpa using hK)⟩ ?_
  clear hS;intro s a w F hC hS
  obtain ⟨j,es2,ck2⟩:=s
  try dsimp only at hC
  obtain ⟨F,hS⟩:=hS.nm [43,42,41,38,37,15,14,13,12,5,4,3,2,1,0] [101,0] rfl rfl
  try dsimp only at hS
  obtain ⟨hi,hq⟩:=hC
  refine wp_seq ?_
  refine region_z hS (qf (o_lss .t .t) r2 qz qZ) hB [44,43,42,41,38,37,15,14,13,12,5,4,3,2,1,0] [101,0] rfl rfl ?_
  clear hS;intro a w F hS
  refine then_n (wp_seq ?_)
  refine cond_b hS rfl (fun hc1=>?_) (fun hc1=>?_)
  ·skip
   have hil:j<lc.length:=by simp at hc1;omega
   refine wp_skip (then_n (wp_seq (wp_block (wp_seq ?_))))
   refine region_q hS (qf (o_indexAddr_sl (sz:=2) (.mk Tryz.underlying28 (by kernel_rfl)) (by intro x;rfl) .t .t (by omega) (by omega)) r2 qz (qf (oR true 2 .t) r1 qz (qf (oH [.int .i64 0,.slice none 0 0] 102) trivial qz (qf (oA 2 102 .same .t) r2 r1 qZ)))) hB ?_
   clear hS;intro a w F hS
   replace hS:=hS.sub
   obtain ⟨F,hS⟩:=hS.nm [43,42,41,38,37,19,15,14,13,12,5,4,3,2,1,0] [102,101,0] rfl rfl
   try dsimp only [RS.sub,SF.sub,CF.sub,csub,Anc.sub,List.map,stCells,xL,xM,Nat.reduceAdd,xD,xE,xT,xU,xC,xN,zCF,ldSF,rHist,rTx,rOrd,rVer,rInt,rOp,rDelta] at hS
   generalize Act.tau a 19=v19 at hS
   try simp only [Int.toNat_natCast] at hS
   refine then_n ?_
   refine region_z hS (qM rfl rfl (qM rfl rfl (qf (oL true 2 102 .is) r1 r1 (qf (o_callClosP (avs:=[.agg (rOrd (Go.Gm.nth lc j))]) .t (idR_c (Go.Gm.nth lc j)) Tryz.func54 rfl (by kernel_rfl) (Args.one (.pagg .t))) r2 qz (qf (o_lookupG (ek:=(fun c:Int=>PV.int .i64 c)) (z0:=(0:Int)) 101 Tryz.underlying135 (key_intR Tryz.underlying3) (by kernel_rfl) (fun _ _=>⟨rfl,inR0⟩) .is (IsKeyOf.intR .t rfl)) r2 r1 (qf (o_add .t qi) r1 qz (qf (o_mapUpdateG (ek:=(fun c:Int=>PV.int .i64 c)) 101 Tryz.underlying135 (key_intR Tryz.underlying3) .is (IsKeyOf.intR .t rfl) .t) r3 r1 qZ))))))) hB [43,42,41,38,37,15,14,13,12,5,4,3,2,1,0] [102,101,0] rfl rfl ?_
   clear hS;intro a w F hS
   refine block_n (then_n ?_)
   refine region_z hS (qf (o_add .t qi) r1 qz (qM rfl rfl qZ)) hB [43,42,41,38,37,15,14,13,12,5,4,3,2,1,0] [102,101,0] rfl rfl ?_
   clear hS;intro a w F hS
   refine then_n ?_
   replace hS:=hS.ent (i:=43) (s':=.pv (.int .i64 ((j+1:Nat):Int))) rfl (.int (wrap_succ (by omega)))
   obtain ⟨F,hS⟩:=hS.nm [42,41,38,37,15,14,13,12,5,4,3,2,1,0,43] [0,101] rfl rfl
   exact ⟨((j+1),_,_),F,⟨by omega,(by rw [take_nth hil,← List.append_assoc,List.map_append];exact KSet.put hq)⟩,hS,by omega⟩
  have hil:j=lc.length:=by simp at hc1;omega
  have hK2:KSet es2 ((([was,now,old,next].take (i+1)).flatten).map OrdD.key):=by rw [hil,List.take_length] at hq;rw [take_nth (l:=[was,now,old,next]) (i:=i) (by simp;omega),List.flatten_append,List.flatten_cons,List.flatten_nil,List.append_nil,← lce];exact hq
  refine wp_exit (then_x (then_x (block_x (block_n (then_n ?_)))))
  refine region_z hS (qf (o_add .t qi) r1 qz (qM rfl rfl qZ)) hB [38,37,15,14,13,12,5,4,3,2,1,0] [101,0] rfl rfl ?_
  clear hS;intro a w F hS
  refine then_n ?_
  replace hS:=hS.ent (i:=38) (s':=.pv (.int .i64 ((i+1:Nat):Int))) rfl (.int (wrap_succ (by omega)))
  obtain ⟨F,hS⟩:=hS.nm [37,15,14,13,12,5,4,3,2,1,0,38] [0,101] rfl rfl
  exact ⟨((i+1),(es2),(ck2)),F,⟨by omega,hK2⟩,hS,by omega⟩
 have hK4:KSet es ((was++now++old++next).map OrdD.key):=by have h9:=hK;rw [show i=4 by simp at hc0;omega] at h9;simpa using h9
 have hkl:(keysK OrdD.key was now old next).length≤4000:=by have:=keysL_len ((was++now++old++next).map OrdD.key);rw [List.length_map] at this;simp only [List.length_append] at this;unfold keysK;omega
 refine wp_exit (then_x (then_x (block_x (then_n (wp_seq (wp_seq ?_))))))
 replace hS:=hS.fresh 60 rfl
 replace hS:=hS.turn 101 rfl (r':=RS.hp (MPI es ck v32)) (fun _ _ _ _ h=>h)
 obtain ⟨F,hS⟩:=hS.nm [39,38,37,15,14,13,12,5,4,3,2,1,0] [101,60,0] rfl rfl
 refine part_first 3 hS (by kernel_rfl) (cG rfl (oM .t) r1 trivial (cG rfl (oP (mkeys_c v32) Tryz.func118 (Args.one .t)) r1 trivial (cG rfl (o_callG2N 101 60 (sortedI_c v32 es ck _ hK4 (by rw [List.length_map];simp only [List.length_append];omega)) Tryz.func117 rfl (by kernel_rfl) rfl (Args.one .t) pvOne1) r1 r2 ChainN.nil))) (by kernel_rfl) (by rw [hB];kernel_rfl) ?_
 clear hS;intro a w F hS
 replace hS:=hS.sub
 obtain ⟨F,hS⟩:=hS.nm [57,14,13,12,5,4,3,2,1,0] [101,60,0] rfl rfl
 try dsimp only [RS.sub,SF.sub,CF.sub,csub,Anc.sub,List.map,rHist,rTx,rOrd,rVer,rInt,rOp,rDelta] at hS
 generalize Act.tau a 57=v57 at hS
 replace hS:=hS.turn 60 rfl (r':=.ob (.val v57) (rowH 3 1 rInt (keysK OrdD.key was now old next))) (fun _ _ _ _ h=>h)
 obtain ⟨F,hS⟩:=hS.give 60 57 rfl rfl
 obtain ⟨F,hS⟩:=hS.nm [57,14,13,12,5,4,3,2,1,0] [0] rfl rfl
 refine part_last hS (by kernel_rfl) (cG rfl (o_len_sl Tryz.underlying35 .t) r1 trivial (cG rfl (oM (.ci (by kernel_rfl))) trivial trivial ChainN.nil)) (by kernel_rfl) (by rw [hB];kernel_rfl) ?_
 clear hS;intro a w F hS
 obtain ⟨F,hS⟩:=hS.nm [59,58,57,14,13,12,5,4,3,2,1,0] [0] rfl rfl
 try dsimp only [rHist,rTx,rOrd,rVer,rInt,rOp,rDelta] at hS
 refine then_n (wp_block ?_)
 replace hS:=hS.fresh 50 rfl
 replace hS:=hS.turn 50 rfl (nilRow (T:=37) (sz:=2) (R:=rOrd))
 replace hS:=hS.fresh 51 rfl
 replace hS:=hS.turn 51 rfl (nilRow (T:=37) (sz:=2) (R:=rOrd))
 refine loop_keep (σ:=(Nat)×(Value)×(List OrdD)×(Value)×(List OrdD)) [0,1,2,3,4,5,14,57,58] [0] (fun s=>[(59,.pv (.int .i64 (s.1:Int))),(12,.pv (.is s.2.1)),(13,.pv (.is s.2.2.2.1))]) (fun s=>[(50,.ob (.val s.2.1) (rowH 37 2 rOrd s.2.2.1)),(51,.ob (.val s.2.2.2.1) (rowH 37 2 rOrd s.2.2.2.2))]) (fun s=>s.1≤(keysK OrdD.key was now old next).length∧(joinG OrdD.key was now old next ((keysK OrdD.key was now old next).take s.1)=some (s.2.2.1,s.2.2.2.2))) (fun s=>(keysK OrdD.key was now old next).length - s.1) ((0),(.slice none 0 0),([]),(.slice none 0 0),([])) hS ⟨rfl,rfl,rfl,rfl,rfl,rfl,rfl,rfl,rfl,rfl,rfl,rfl,trivial⟩ ⟨rfl,rfl,rfl,trivial⟩ ⟨Nat.zero_le _,rfl⟩ ?_
 clear hS;intro s a w F hC hS
 obtain ⟨i,va,oa,vb,ob⟩:=s
 try dsimp only at hC
 obtain ⟨F,hS⟩:=hS.nm [59,58,57,14,13,12,5,4,3,2,1,0] [51,50,0] rfl rfl
 try dsimp only at hS
 obtain ⟨hi,hq⟩:=hC
 have hol:=joinG_len _ ([],[]) _ hq
 rw [List.length_take] at hol
 dsimp only [xM] at hol
 refine wp_seq ?_
 refine region_z hS (qf (o_lss .t .t) r2 qz qZ) hB [60,59,58,57,14,13,12,5,4,3,2,1,0] [51,50,0] rfl rfl ?_
 clear hS;intro a w F hS
 refine then_n (wp_seq ?_)
 refine cond_b hS rfl (fun hc2=>?_) (fun hc2=>?_)
 ·skip
  have hil:i<(keysK OrdD.key was now old next).length:=by simp at hc2;omega
  refine wp_skip (then_n (wp_seq (wp_block (wp_seq ?_))))
  refine region_z hS (qf (o_indexAddr_sl (sz:=1) (.mk Tryz.underlying35 (by kernel_rfl)) (by intro x;rfl) .t .t (by omega) (by omega)) r2 qz (qf (oR false 1 .t) r1 qz (qN rfl rfl qZ))) hB [59,58,57,21,14,13,12,5,4,3,2,1,0] [51,50,0] rfl rfl ?_
  clear hS;intro a w F hS
  try simp only [Int.toNat_natCast] at hS
  refine then_n (wp_seq ?_)
  refine region_q hS (qM rfl rfl (qM rfl rfl (qM rfl rfl (qf (oP (seekR_c was (Go.Gm.nth (keysK OrdD.key was now old next) i)) Tryz.func107 (Args.three .t .t .t)) r3 qz (qM rfl rfl (qf (o_extract .t rfl) r1 qz (qf (o_extract .t rfl) r1 qz (qf (oH [.int .i64 0,.slice none 0 0] 103) trivial qz (qf (oA 2 103 .same (.conv .t .agg)) r2 r1 (qN rfl rfl qZ)))))))))) hB ?_
  clear hS;intro a w F hS
  replace hS:=hS.sub
  obtain ⟨F,hS⟩:=hS.nm [59,58,57,23,22,21,14,13,12,5,4,3,2,1,0] [103,51,50,0] rfl rfl
  try dsimp only [RS.sub,SF.sub,CF.sub,csub,Anc.sub,List.map,stCells,xL,xM,Nat.reduceAdd,xD,xE,xT,xU,xC,xN,zCF,rHist,rTx,rOrd,rVer,rInt,rOp,rDelta] at hS
  generalize Act.tau a 22=v22 at hS
  refine then_n (wp_seq ?_)
  refine region_q hS (qM rfl rfl (qM rfl rfl (qM rfl rfl (qf (oP (seekR_c now (Go.Gm.nth (keysK OrdD.key was now old next) i)) Tryz.func107 (Args.three .t .t .t)) r3 qz (qM rfl rfl (qf (o_extract .t rfl) r1 qz (qf (o_extract .t rfl) r1 qz (qf (oH [.int .i64 0,.slice none 0 0] 104) trivial qz (qf (oA 2 104 .same (.conv .t .agg)) r2 r1 (qN rfl rfl qZ)))))))))) hB ?_
  clear hS;intro a w F hS
  replace hS:=hS.sub
  obtain ⟨F,hS⟩:=hS.nm [59,58,57,25,24,23,22,21,14,13,12,5,4,3,2,1,0] [104,103,51,50,0] rfl rfl
  try dsimp only [RS.sub,SF.sub,CF.sub,csub,Anc.sub,List.map,stCells,xL,xM,Nat.reduceAdd,xD,xE,xT,xU,xC,xN,zCF,rHist,rTx,rOrd,rVer,rInt,rOp,rDelta] at hS
  generalize Act.tau a 24=v24 at hS
  refine then_n (wp_seq ?_)
  refine region_q hS (qM rfl rfl (qM rfl rfl (qM rfl rfl (qf (oP (seekR_c old (Go.Gm.nth (keysK OrdD.key was now old next) i)) Tryz.func107 (Args.three .t .t .t)) r3 qz (qM rfl rfl (qf (o_extract .t rfl) r1 qz (qf (o_extract .t rfl) r1 qz (qf (oH [.int .i64 0,.slice none 0 0] 105) trivial qz (qf (oA 2 105 .same (.conv .t .agg)) r2 r1 (qN rfl rfl qZ)))))))))) hB ?_
  clear hS;intro a w F hS
  replace hS:=hS.sub
  obtain ⟨F,hS⟩:=hS.nm [59,58,57,27,26,25,24,23,22,21,14,13,12,5,4,3,2,1,0] [105,104,103,51,50,0] rfl rfl
  try dsimp only [RS.sub,SF.sub,CF.sub,csub,Anc.sub,List.map,stCells,xL,xM,Nat.reduceAdd,xD,xE,xT,xU,xC,xN,zCF,rHist,rTx,rOrd,rVer,rInt,rOp,rDelta] at hS
  generalize Act.tau a 26=v26 at hS
  refine then_n (wp_seq ?_)
  refine region_q hS (qM rfl rfl (qM rfl rfl (qM rfl rfl (qf (oP (seekR_c next (Go.Gm.nth (keysK OrdD.key was now old next) i)) Tryz.func107 (Args.three .t .t .t)) r3 qz (qM rfl rfl (qf (o_extract .t rfl) r1 qz (qf (o_extract .t rfl) r1 qz (qf (oH [.int .i64 0,.slice none 0 0] 106) trivial qz (qf (oA 2 106 .same (.conv .t .agg)) r2 r1 (qN rfl rfl qZ)))))))))) hB ?_
  clear hS;intro a w F hS
  replace hS:=hS.sub
  obtain ⟨F,hS⟩:=hS.nm [59,58,57,29,28,27,26,25,24,23,22,14,13,12,5,4,3,2,1,0] [106,105,104,103,51,50,0] rfl rfl
  try dsimp only [RS.sub,SF.sub,CF.sub,csub,Anc.sub,List.map,stCells,xL,xM,Nat.reduceAdd,xD,xE,xT,xU,xC,xN,zCF,rHist,rTx,rOrd,rVer,rInt,rOp,rDelta] at hS
  generalize Act.tau a 28=v28 at hS
  refine then_n (wp_seq ?_)
  refine region_z hS (qM rfl rfl (qM rfl rfl (qm rfl rfl rfl rfl (qf (o_or2 .t .t) r2 qz (qM rfl rfl (qM rfl rfl (qm rfl rfl rfl rfl (qf (o_or2 .t .t) r2 qz (qN rfl rfl (qN rfl rfl qZ)))))))))) hB [59,58,57,31,30,29,28,27,26,25,24,23,22,14,13,12,5,4,3,2,1,0] [106,105,104,103,51,50,0] rfl rfl ?_
  clear hS;intro a w F hS
  refine then_n (wp_seq ?_)
  refine join_keep (σ:=Option OrdD×Option OrdD) [0,1,2,3,4,5,12,13,14,22,28,57,58,59] [0,50,51,104,105] (fun s=>[(23,.pv (.bool (s.1).isSome)),(29,.pv (.bool (s.2).isSome))]) (fun s=>[(103,.pt (.val v22) 37 [.pv (.int .i64 ((s.1).getD zeroR).key),.pv (.sl rInt ((s.1).getD zeroR).txs)]),(106,.pt (.val v28) 37 [.pv (.int .i64 ((s.2).getD zeroR).key),.pv (.sl rInt ((s.2).getD zeroR).txs)])]) (fun s=>joinS OrdD.key was now old next (Go.Gm.nth (keysK OrdD.key was now old next) i)=some (s.1,s.2)) hS ?_ ?_
  ·skip
   refine wp_block (wp_seq ?_)
   refine region_z hS (qM rfl rfl (qM rfl rfl (qm rfl rfl rfl rfl (qf (o_and2 .t .t) r2 qz (qM rfl rfl (qm rfl rfl rfl rfl (qm rfl rfl rfl rfl (qk rfl (fun h=>o_neqB Tryz.underlying4 (.w h) (.w h)) r3 qz (qk rfl (fun h=>oM (.w h)) r2 qz (Chain.cons (Cert.cond2 rfl rfl (fun h=>o_move .t (by rfl))) r2 qz (Chain.cons (Cert.cond2 rfl rfl (fun h=>o_move (.w h) (by rfl))) r2 qz (Chain.cons (Cert.cond2 rfl rfl (fun h=>o_move .t (by rfl))) r2 qz (Chain.cons (Cert.cond2 rfl rfl (fun h=>o_load (ag:=true) (sz:=2) 104 .is (by kernel_rfl) (by kernel_rfl) (by kernel_rfl) (by rfl))) r2 r1 (Chain.cons (Cert.cond2 rfl rfl (fun h=>o_load (ag:=true) (sz:=2) 105 .is (by kernel_rfl) (by kernel_rfl) (by kernel_rfl) (by rfl))) r2 r1 (Chain.cons (Cert.cond2 rfl rfl (fun h=>o_callClosP (avs:=[.agg (rOrd ((seekK OrdD.key now (Go.Gm.nth (keysK OrdD.key was now old next) i)).getD zeroR)),.agg (rOrd ((seekK OrdD.key old (Go.Gm.nth (keysK OrdD.key was now old next) i)).getD zeroR))]) (.w h) (dsameR_c ((seekK OrdD.key now (Go.Gm.nth (keysK OrdD.key was now old next) i)).getD zeroR) ((seekK OrdD.key old (Go.Gm.nth (keysK OrdD.key was now old next) i)).getD zeroR)) Tryz.func55 rfl (by kernel_rfl) (Args.two (.pagg (.w h)) (.pagg (.w h))))) r4 qz (Chain.cons (Cert.cond2 rfl rfl (fun h=>o_not (.w h))) r2 qz (Chain.cons (Cert.cond2 rfl rfl (fun h=>o_and2 (.w h) (.wc h))) r3 qz (qk rfl (fun h=>o_or2 (.w h) (.wc h)) r3 qz (qf (o_and2 .t .t) r2 qz (qN rfl rfl qZ)))))))))))))))))))) hB [99,59,58,57,31,30,29,28,27,26,25,24,23,22,14,13,12,5,4,3,2,1,0] [106,105,104,103,51,50,0] rfl rfl ?_
   clear hS;intro a w F hS
   try dsimp only [List.map,xD,xE,xT,xU,ldSF,rHist,rTx,rOrd,rVer,rInt,rOp,rDelta] at hS
   refine then_n ?_
   refine cond_b hS rfl (fun hc3=>?_) (fun hc3=>?_)
   ·skip
    have h9:(((((seekK OrdD.key was (Go.Gm.nth (keysK OrdD.key was now old next) i)).isSome || (seekK OrdD.key now (Go.Gm.nth (keysK OrdD.key was now old next) i)).isSome) && ((seekK OrdD.key old (Go.Gm.nth (keysK OrdD.key was now old next) i)).isSome || (seekK OrdD.key next (Go.Gm.nth (keysK OrdD.key was now old next) i)).isSome)) && (((seekK OrdD.key now (Go.Gm.nth (keysK OrdD.key was now old next) i)).isSome != (seekK OrdD.key old (Go.Gm.nth (keysK OrdD.key was now old next) i)).isSome) || ((seekK OrdD.key now (Go.Gm.nth (keysK OrdD.key was now old next) i)).isSome && !decide ((seekK OrdD.key now (Go.Gm.nth (keysK OrdD.key was now old next) i)).getD zeroR=(seekK OrdD.key old (Go.Gm.nth (keysK OrdD.key was now old next) i)).getD zeroR)))))=true:=hc3
    rw [opt_ne] at h9
    have hjn:joinS OrdD.key was now old next (Go.Gm.nth (keysK OrdD.key was now old next) i)=none:=by unfold joinS;rw [if_pos (by simpa [and_assoc] using h9)]
    have hg:joinR OrdD.key was now old next=([],[],false):=by unfold joinR joinK;rw [joinG_none (i:=i+1) (by rw [joinG_step hil hq,hjn];rfl)]
    refine wp_seq ?_
    refine region_z hS (qf (oN (.c rfl)) trivial qz (qf (oN (.c rfl)) trivial qz (qf (oN .cb) trivial qz qZ))) hB [59,58,57,29,28,23,22,14,13,12,5,4,3,2,1,0] [106,105,104,103,51,50,0] rfl rfl ?_
    clear hS;intro a w F hS
    refine then_n (wp_ret (block_r (then_r (block_r (then_r (then_r (block_r (then_r ?_))))))))
    refine ret_P hfr hS rfl (.tmp rfl (.tmp rfl (.tmp rfl .nil))) (.three (.trans .nilSl (.sl (by rw [hg]))) (.trans .nilSl (.sl (by rw [hg]))) (.bool (by rw [hg])))
   have h9:(((((seekK OrdD.key was (Go.Gm.nth (keysK OrdD.key was now old next) i)).isSome || (seekK OrdD.key now (Go.Gm.nth (keysK OrdD.key was now old next) i)).isSome) && ((seekK OrdD.key old (Go.Gm.nth (keysK OrdD.key was now old next) i)).isSome || (seekK OrdD.key next (Go.Gm.nth (keysK OrdD.key was now old next) i)).isSome)) && (((seekK OrdD.key now (Go.Gm.nth (keysK OrdD.key was now old next) i)).isSome != (seekK OrdD.key old (Go.Gm.nth (keysK OrdD.key was now old next) i)).isSome) || ((seekK OrdD.key now (Go.Gm.nth (keysK OrdD.key was now old next) i)).isSome && !decide ((seekK OrdD.key now (Go.Gm.nth (keysK OrdD.key was now old next) i)).getD zeroR=(seekK OrdD.key old (Go.Gm.nth (keysK OrdD.key was now old next) i)).getD zeroR)))))=false:=hc3
   rw [opt_ne] at h9
   have hjn:joinS OrdD.key was now old next (Go.Gm.nth (keysK OrdD.key was now old next) i)=some (if ((seekK OrdD.key was (Go.Gm.nth (keysK OrdD.key was now old next) i)).isSome || (seekK OrdD.key now (Go.Gm.nth (keysK OrdD.key was now old next) i)).isSome)=true then (seekK OrdD.key was (Go.Gm.nth (keysK OrdD.key was now old next) i)) else (seekK OrdD.key old (Go.Gm.nth (keysK OrdD.key was now old next) i)),if ((seekK OrdD.key old (Go.Gm.nth (keysK OrdD.key was now old next) i)).isSome || (seekK OrdD.key next (Go.Gm.nth (keysK OrdD.key was now old next) i)).isSome)=true then (seekK OrdD.key next (Go.Gm.nth (keysK OrdD.key was now old next) i)) else (seekK OrdD.key now (Go.Gm.nth (keysK OrdD.key was now old next) i))):=by unfold joinS;rw [if_neg (by rintro ⟨e1,e2,e3⟩;rw [e1,e2,decide_eq_true e3] at h9;cases h9)]
   refine wp_seq ?_
   refine region_z hS (qM rfl rfl (qf (o_not .t) r1 qz (qN rfl rfl qZ))) hB [119,59,58,57,31,29,28,27,26,25,24,23,22,14,13,12,5,4,3,2,1,0] [106,105,104,103,51,50,0] rfl rfl ?_
   clear hS;intro a w F hS
   refine then_n ?_
   refine cond_b hS rfl (fun hc4=>?_) (fun hc4=>?_)
   ·skip
    have h8:((seekK OrdD.key was (Go.Gm.nth (keysK OrdD.key was now old next) i)).isSome || (seekK OrdD.key now (Go.Gm.nth (keysK OrdD.key was now old next) i)).isSome)=false:=not_tr hc4
    have hjs:joinS OrdD.key was now old next (Go.Gm.nth (keysK OrdD.key was now old next) i)=some ((seekK OrdD.key old (Go.Gm.nth (keysK OrdD.key was now old next) i)),(seekK OrdD.key next (Go.Gm.nth (keysK OrdD.key was now old next) i))):=by
      rw [hjn,if_neg (by rw [h8];exact Bool.false_ne_true)]
      by_cases h7:((seekK OrdD.key old (Go.Gm.nth (keysK OrdD.key was now old next) i)).isSome || (seekK OrdD.key next (Go.Gm.nth (keysK OrdD.key was now old next) i)).isSome)=true
      · rw [if_pos h7]
      · rw [if_neg h7]
        have e1:(seekK OrdD.key next (Go.Gm.nth (keysK OrdD.key was now old next) i))=none:=by cases e:(seekK OrdD.key next (Go.Gm.nth (keysK OrdD.key was now old next) i)) with | none=>rfl | some v=>rw [e] at h7;simp at h7
        have e2:(seekK OrdD.key now (Go.Gm.nth (keysK OrdD.key was now old next) i))=none:=by cases e:(seekK OrdD.key now (Go.Gm.nth (keysK OrdD.key was now old next) i)) with | none=>rfl | some v=>rw [e] at h8;simp at h8
        rw [e1,e2]
    refine region_z hS (qf (oL true 2 105 .is) r1 r1 (qM rfl rfl (qf (oA 2 103 .is .t) r2 r1 (qN rfl rfl qZ)))) hB [59,58,57,29,28,23,22,14,13,12,5,4,3,2,1,0] [106,105,104,103,51,50,0] rfl rfl ?_
    clear hS;intro a w F hS
    refine block_n (then_n ?_)
    obtain ⟨F,hS⟩:=hS.nm [59,58,57,28,22,14,13,12,5,4,3,2,1,0,29,23] [105,104,51,50,0,106,103] rfl rfl
    exact ⟨(_,_),F,hjs,hS⟩
   have h8:((seekK OrdD.key was (Go.Gm.nth (keysK OrdD.key was now old next) i)).isSome || (seekK OrdD.key now (Go.Gm.nth (keysK OrdD.key was now old next) i)).isSome)=true:=not_fl hc4
   refine wp_seq ?_
   refine region_z hS (qM rfl rfl (qf (o_not .t) r1 qz (qN rfl rfl qZ))) hB [124,59,58,57,29,28,25,24,23,22,14,13,12,5,4,3,2,1,0] [106,105,104,103,51,50,0] rfl rfl ?_
   clear hS;intro a w F hS
   refine then_n ?_
   refine cond_b hS rfl (fun hc5=>?_) (fun hc5=>?_)
   ·skip
    have h7:((seekK OrdD.key old (Go.Gm.nth (keysK OrdD.key was now old next) i)).isSome || (seekK OrdD.key next (Go.Gm.nth (keysK OrdD.key was now old next) i)).isSome)=false:=not_tr hc5
    have hjs:joinS OrdD.key was now old next (Go.Gm.nth (keysK OrdD.key was now old next) i)=some ((seekK OrdD.key was (Go.Gm.nth (keysK OrdD.key was now old next) i)),(seekK OrdD.key now (Go.Gm.nth (keysK OrdD.key was now old next) i))):=by rw [hjn,if_pos h8,if_neg (by rw [h7];exact Bool.false_ne_true)]
    refine region_z hS (qf (oL true 2 104 .is) r1 r1 (qM rfl rfl (qf (oA 2 106 .is .t) r2 r1 (qN rfl rfl qZ)))) hB [59,58,57,29,28,23,22,14,13,12,5,4,3,2,1,0] [106,105,104,103,51,50,0] rfl rfl ?_
    clear hS;intro a w F hS
    refine block_n (then_n ?_)
    obtain ⟨F,hS⟩:=hS.nm [59,58,57,28,22,14,13,12,5,4,3,2,1,0,29,23] [105,104,51,50,0,106,103] rfl rfl
    exact ⟨(_,_),F,hjs,hS⟩
   have h7:((seekK OrdD.key old (Go.Gm.nth (keysK OrdD.key was now old next) i)).isSome || (seekK OrdD.key next (Go.Gm.nth (keysK OrdD.key was now old next) i)).isSome)=true:=not_fl hc5
   have hjs:joinS OrdD.key was now old next (Go.Gm.nth (keysK OrdD.key was now old next) i)=some ((seekK OrdD.key was (Go.Gm.nth (keysK OrdD.key was now old next) i)),(seekK OrdD.key next (Go.Gm.nth (keysK OrdD.key was now old next) i))):=by rw [hjn,if_pos h8,if_pos h7]
   refine wp_skip (block_n (then_n ?_))
   obtain ⟨F,hS⟩:=hS.nm [59,58,57,28,22,14,13,12,5,4,3,2,1,0,29,23] [105,104,51,50,0,106,103] rfl rfl
   exact ⟨(_,_),F,hjs,hS⟩
  clear hS;intro s a w F hC hS
  obtain ⟨P,Z⟩:=s
  try dsimp only at hC
  obtain ⟨F,hS⟩:=hS.nm [59,58,57,29,28,23,22,14,13,12,5,4,3,2,1,0] [106,105,104,103,51,50,0] rfl rfl
  try dsimp only at hS
  have hjs:=hC
  refine wp_seq (wp_seq ?_)
  refine region_z hS (qM rfl rfl (qM rfl rfl (qf (o_eqlB Tryz.underlying4 .t .t) r2 qz (qM rfl rfl (qm rfl rfl rfl rfl (qk rfl (fun h=>o_not (.w h)) r2 qz (qk rfl (fun h=>oM (.w h)) r2 qz (Chain.cons (Cert.cond2 rfl rfl (fun h=>o_move .t (by rfl))) r2 qz (Chain.cons (Cert.cond2 rfl rfl (fun h=>o_load (ag:=true) (sz:=2) 103 .is (by kernel_rfl) (by kernel_rfl) (by kernel_rfl) (by rfl))) r2 r1 (Chain.cons (Cert.cond2 rfl rfl (fun h=>o_load (ag:=true) (sz:=2) 106 .is (by kernel_rfl) (by kernel_rfl) (by kernel_rfl) (by rfl))) r2 r1 (Chain.cons (Cert.cond2 rfl rfl (fun h=>o_callClosP (avs:=[.agg (rOrd (P.getD zeroR)),.agg (rOrd (Z.getD zeroR))]) (.w h) (dsameR_c (P.getD zeroR) (Z.getD zeroR)) Tryz.func55 rfl (by kernel_rfl) (Args.two (.pagg (.w h)) (.pagg (.w h))))) r4 qz (qk rfl (fun h=>o_or2 (.w h) (.wc h)) r3 qz (qf (o_and2 .t .t) r2 qz qZ))))))))))))) hB [141,59,58,57,29,28,23,22,14,13,12,5,4,3,2,1,0] [106,105,104,103,51,50,0] rfl rfl ?_
  clear hS;intro a w F hS
  try dsimp only [List.map,xD,xE,xT,xU,ldSF,rHist,rTx,rOrd,rVer,rInt,rOp,rDelta] at hS
  refine then_n ?_
  refine cond_b hS rfl (fun hc6=>?_) (fun hc6=>?_)
  ·skip
   have h9:((P.isSome == Z.isSome) && (!P.isSome || decide (P.getD zeroR=Z.getD zeroR)))=true:=hc6
   rw [opt_eq,decide_eq_true_eq] at h9
   have hst9:joinG OrdD.key was now old next ((keysK OrdD.key was now old next).take (i+1))=some (oa,ob):=by rw [joinG_step hil hq,hjs];show some (joinP (oa,ob) (P,Z))=_;unfold joinP;rw [if_pos h9]
   refine wp_exit (then_x (block_x (then_n ?_)))
   refine region_z hS (qf (o_add .t qi) r1 qz (qM rfl rfl qZ)) hB [59,58,57,14,13,12,5,4,3,2,1,0] [106,105,104,103,51,50,0] rfl rfl ?_
   clear hS;intro a w F hS
   refine then_n ?_
   replace hS:=hS.ent (i:=59) (s':=.pv (.int .i64 ((i+1:Nat):Int))) rfl (.int (wrap_succ (by omega)))
   obtain ⟨F,hS⟩:=hS.nm [58,57,14,5,4,3,2,1,0,13,12,59] [0,51,50] rfl rfl
   exact ⟨((i+1),_,_,_,_),F,⟨by omega,hst9⟩,hS,by omega⟩
  have h9:((P.isSome == Z.isSome) && (!P.isSome || decide (P.getD zeroR=Z.getD zeroR)))=false:=hc6
  rw [opt_eq,decide_eq_false_iff_not] at h9
  refine wp_skip (then_n (wp_seq (wp_seq ?_)))
  refine region_z hS (qM rfl rfl qZ) hB [142,59,58,57,29,28,22,14,13,12,5,4,3,2,1,0] [106,105,104,103,51,50,0] rfl rfl ?_
  clear hS;intro a w F hS
  refine then_n ?_
  refine cond_b hS rfl (fun hc7=>?_) (fun hc7=>?_)
  ·skip
   obtain ⟨la,lae⟩:∃ z,z=oa ++ [P.getD zeroR]:=⟨_,rfl⟩
   have hla2:la=oa++P.toList:=by rw [lae];have h8:=hc7;cases P with | none=>simp at h8 | some v=>rfl
   refine region_q hS (qM rfl rfl (qf (oL true 2 103 .is) r1 r1 (qf (o_buildSliceE (sz:=2) (zs:=[.int .i64 0,.slice none 0 0]) (r:=[(0,.tmp 144)]) (l:=[_,_]) Tryz.underlying28 (by kernel_rfl) (by kernel_rfl) (by kernel_rfl) (by kernel_rfl) rfl rfl (.agg rfl .t (by kernel_rfl) (by kernel_rfl) .nil) rfl) r1 qz (qf (o_append (sz:=2) (bs:=32) 50 (.mk' Tryz.underlying28 (by kernel_rfl) (by kernel_rfl)) (by intro x;rfl) .is (.arr (l':=[(P.getD zeroR)]) .t) (by simp only [List.length_append,List.length_cons,List.length_nil];omega) (by decide)) ⟨rfl,rfl,trivial⟩ ⟨rfl,trivial⟩ (qN rfl rfl qZ))))) hB ?_
   clear hS;intro a w F hS
   replace hS:=hS.sub
   obtain ⟨F,hS⟩:=hS.nm [59,58,57,29,28,14,13,12,5,4,3,2,1,0] [106,105,104,103,51,50,0] rfl rfl
   try dsimp only [RS.sub,SF.sub,CF.sub,csub,Anc.sub,List.map,stCells,xL,xM,Nat.reduceAdd,xD,xE,xT,xU,xC,xN,zCF,ldSF,rHist,rTx,rOrd,rVer,rInt,rOp,rDelta] at hS
   generalize Act.tau a 146=v146 at hS
   rw [← lae] at hS
   refine then_n (wp_seq ?_)
   refine region_z hS (qM rfl rfl qZ) hB [147,59,58,57,28,14,13,12,5,4,3,2,1,0] [106,105,104,103,51,50,0] rfl rfl ?_
   clear hS;intro a w F hS
   refine then_n ?_
   refine cond_b hS rfl (fun hc8=>?_) (fun hc8=>?_)
   ·skip
    obtain ⟨lb,lbe⟩:∃ z,z=ob ++ [Z.getD zeroR]:=⟨_,rfl⟩
    have hlb2:lb=ob++Z.toList:=by rw [lbe];have h8:=hc8;cases Z with | none=>simp at h8 | some v=>rfl
    have hst9:joinG OrdD.key was now old next ((keysK OrdD.key was now old next).take (i+1))=some (la,lb):=by rw [joinG_step hil hq,hjs];show some (joinP (oa,ob) (P,Z))=_;unfold joinP;rw [if_neg h9,hla2,hlb2]
    refine region_q hS (qM rfl rfl (qf (oL true 2 106 .is) r1 r1 (qf (o_buildSliceE (sz:=2) (zs:=[.int .i64 0,.slice none 0 0]) (r:=[(0,.tmp 149)]) (l:=[_,_]) Tryz.underlying28 (by kernel_rfl) (by kernel_rfl) (by kernel_rfl) (by kernel_rfl) rfl rfl (.agg rfl .t (by kernel_rfl) (by kernel_rfl) .nil) rfl) r1 qz (qf (o_append (sz:=2) (bs:=32) 51 (.mk' Tryz.underlying28 (by kernel_rfl) (by kernel_rfl)) (by intro x;rfl) .is (.arr (l':=[(Z.getD zeroR)]) .t) (by simp only [List.length_append,List.length_cons,List.length_nil];omega) (by decide)) ⟨rfl,rfl,trivial⟩ ⟨rfl,trivial⟩ (qN rfl rfl qZ))))) hB ?_
    clear hS;intro a w F hS
    replace hS:=hS.sub
    obtain ⟨F,hS⟩:=hS.nm [59,58,57,14,13,12,5,4,3,2,1,0] [106,105,104,103,51,50,0] rfl rfl
    try dsimp only [RS.sub,SF.sub,CF.sub,csub,Anc.sub,List.map,stCells,xL,xM,Nat.reduceAdd,xD,xE,xT,xU,xC,xN,zCF,ldSF,rHist,rTx,rOrd,rVer,rInt,rOp,rDelta] at hS
    generalize Act.tau a 151=v151 at hS
    rw [← lbe] at hS
    refine block_n (then_n ?_)
    refine region_z hS (qf (o_add .t qi) r1 qz (qM rfl rfl qZ)) hB [59,58,57,14,13,12,5,4,3,2,1,0] [106,105,104,103,51,50,0] rfl rfl ?_
    clear hS;intro a w F hS
    refine then_n ?_
    replace hS:=hS.ent (i:=59) (s':=.pv (.int .i64 ((i+1:Nat):Int))) rfl (.int (wrap_succ (by omega)))
    obtain ⟨F,hS⟩:=hS.nm [58,57,14,5,4,3,2,1,0,13,12,59] [0,51,50] rfl rfl
    exact ⟨((i+1),_,_,_,_),F,⟨by omega,hst9⟩,hS,by omega⟩
   obtain ⟨lb,lbe⟩:∃ z,z=ob:=⟨_,rfl⟩
   rw [← lbe] at hS
   have hlb2:lb=ob++Z.toList:=by rw [lbe];have h8:=hc8;cases Z with | some v=>simp at h8 | none=>simp
   have hst9:joinG OrdD.key was now old next ((keysK OrdD.key was now old next).take (i+1))=some (la,lb):=by rw [joinG_step hil hq,hjs];show some (joinP (oa,ob) (P,Z))=_;unfold joinP;rw [if_neg h9,hla2,hlb2]
   refine wp_skip (block_n (then_n ?_))
   refine region_z hS (qf (o_add .t qi) r1 qz (qM rfl rfl qZ)) hB [59,58,57,14,13,12,5,4,3,2,1,0] [106,105,104,103,51,50,0] rfl rfl ?_
   clear hS;intro a w F hS
   refine then_n ?_
   replace hS:=hS.ent (i:=59) (s':=.pv (.int .i64 ((i+1:Nat):Int))) rfl (.int (wrap_succ (by omega)))
   obtain ⟨F,hS⟩:=hS.nm [58,57,14,5,4,3,2,1,0,13,12,59] [0,51,50] rfl rfl
   exact ⟨((i+1),_,_,_,_),F,⟨by omega,hst9⟩,hS,by omega⟩
  obtain ⟨la,lae⟩:∃ z,z=oa:=⟨_,rfl⟩
  rw [← lae] at hS
  have hla2:la=oa++P.toList:=by rw [lae];have h8:=hc7;cases P with | some v=>simp at h8 | none=>simp
  refine wp_skip (then_n (wp_seq ?_))
  refine region_z hS (qM rfl rfl qZ) hB [147,59,58,57,28,14,13,12,5,4,3,2,1,0] [106,105,104,103,51,50,0] rfl rfl ?_
  clear hS;intro a w F hS
  refine then_n ?_
  refine cond_b hS rfl (fun hc9=>?_) (fun hc9=>?_)
  ·skip
   obtain ⟨lb,lbe⟩:∃ z,z=ob ++ [Z.getD zeroR]:=⟨_,rfl⟩
   have hlb2:lb=ob++Z.toList:=by rw [lbe];have h8:=hc9;cases Z with | none=>simp at h8 | some v=>rfl
   have hst9:joinG OrdD.key was now old next ((keysK OrdD.key was now old next).take (i+1))=some (la,lb):=by rw [joinG_step hil hq,hjs];show some (joinP (oa,ob) (P,Z))=_;unfold joinP;rw [if_neg h9,hla2,hlb2]
   refine region_q hS (qM rfl rfl (qf (oL true 2 106 .is) r1 r1 (qf (o_buildSliceE (sz:=2) (zs:=[.int .i64 0,.slice none 0 0]) (r:=[(0,.tmp 149)]) (l:=[_,_]) Tryz.underlying28 (by kernel_rfl) (by kernel_rfl) (by kernel_rfl) (by kernel_rfl) rfl rfl (.agg rfl .t (by kernel_rfl) (by kernel_rfl) .nil) rfl) r1 qz (qf (o_append (sz:=2) (bs:=32) 51 (.mk' Tryz.underlying28 (by kernel_rfl) (by kernel_rfl)) (by intro x;rfl) .is (.arr (l':=[(Z.getD zeroR)]) .t) (by simp only [List.length_append,List.length_cons,List.length_nil];omega) (by decide)) ⟨rfl,rfl,trivial⟩ ⟨rfl,trivial⟩ (qN rfl rfl qZ))))) hB ?_
   clear hS;intro a w F hS
   replace hS:=hS.sub
   obtain ⟨F,hS⟩:=hS.nm [59,58,57,14,13,12,5,4,3,2,1,0] [106,105,104,103,51,50,0] rfl rfl
   try dsimp only [RS.sub,SF.sub,CF.sub,csub,Anc.sub,List.map,stCells,xL,xM,Nat.reduceAdd,xD,xE,xT,xU,xC,xN,zCF,ldSF,rHist,rTx,rOrd,rVer,rInt,rOp,rDelta] at hS
   generalize Act.tau a 151=v151 at hS
   rw [← lbe] at hS
   refine block_n (then_n ?_)
   refine region_z hS (qf (o_add .t qi) r1 qz (qM rfl rfl qZ)) hB [59,58,57,14,13,12,5,4,3,2,1,0] [106,105,104,103,51,50,0] rfl rfl ?_
   clear hS;intro a w F hS
   refine then_n ?_
   replace hS:=hS.ent (i:=59) (s':=.pv (.int .i64 ((i+1:Nat):Int))) rfl (.int (wrap_succ (by omega)))
   obtain ⟨F,hS⟩:=hS.nm [58,57,14,5,4,3,2,1,0,13,12,59] [0,51,50] rfl rfl
   exact ⟨((i+1),_,_,_,_),F,⟨by omega,hst9⟩,hS,by omega⟩
  obtain ⟨lb,lbe⟩:∃ z,z=ob:=⟨_,rfl⟩
  rw [← lbe] at hS
  have hlb2:lb=ob++Z.toList:=by rw [lbe];have h8:=hc9;cases Z with | some v=>simp at h8 | none=>simp
  have hst9:joinG OrdD.key was now old next ((keysK OrdD.key was now old next).take (i+1))=some (la,lb):=by rw [joinG_step hil hq,hjs];show some (joinP (oa,ob) (P,Z))=_;unfold joinP;rw [if_neg h9,hla2,hlb2]
  refine wp_skip (block_n (then_n ?_))
  refine region_z hS (qf (o_add .t qi) r1 qz (qM rfl rfl qZ)) hB [59,58,57,14,13,12,5,4,3,2,1,0] [106,105,104,103,51,50,0] rfl rfl ?_
  clear hS;intro a w F hS
  refine then_n ?_
  replace hS:=hS.ent (i:=59) (s':=.pv (.int .i64 ((i+1:Nat):Int))) rfl (.int (wrap_succ (by omega)))
  obtain ⟨F,hS⟩:=hS.nm [58,57,14,5,4,3,2,1,0,13,12,59] [0,51,50] rfl rfl
  exact ⟨((i+1),_,_,_,_),F,⟨by omega,hst9⟩,hS,by omega⟩
 have hil:i=(keysK OrdD.key was now old next).length:=by simp at hc2;omega
 have hg:joinR OrdD.key was now old next=(oa,ob,true):=by unfold joinR joinK;rw [hil,List.take_length] at hq;rw [hq]
 refine wp_exit (then_x (then_x (block_x (then_n (wp_seq ?_)))))
 refine region_z hS (qM rfl rfl (qM rfl rfl (qN rfl rfl (qN rfl rfl (qf (oN .cb) trivial qz qZ))))) hB [14,13,12] [51,50,0] rfl rfl ?_
 clear hS;intro a w F hS
 refine then_n (wp_ret ?_)
 obtain ⟨F,hS⟩:=hS.give 50 12 rfl rfl
 obtain ⟨F,hS⟩:=hS.give 51 13 rfl rfl
 refine ret_P hfr hS rfl (.tmp rfl (.tmp rfl (.tmp rfl .nil))) (.three (.sl (by rw [hg])) (.sl (by rw [hg])) (.bool (by rw [hg])))
end Go.Proofs.YtcfgcpcakdknkaaGreat
