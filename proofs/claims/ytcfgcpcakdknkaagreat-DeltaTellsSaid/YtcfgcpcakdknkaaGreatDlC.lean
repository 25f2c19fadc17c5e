/- Deltas: Keys. No condition beyond those that each theorem says. -/
import Derived.Test.YtcfgcpcakdknkaaGreatDlB
import Derived.Test.YtcfgcpcakdknkaaGreatDlX
import Derived.Test.YtcfgcpcakdknkaaGreatTxX
import Derived.Test.YtcfgcpcakdknkaaGreatCp1
namespace Go.Proofs.YtcfgcpcakdknkaaGreat
open Go Go.Gm
set_option linter.unusedVariables false
set_option linter.unusedSimpArgs false
set_option maxHeartbeats 4000000
set_option maxRecDepth 8000
theorem touch_len {l:List TxD} (h:∀ t ∈ l,t.ops.length≤1000):(l.flatMap fun t:TxD=>keysL ((t.ops.filter fun o=>true).map OpD.key)).length≤1000*l.length:=by
 induction l with
 | nil=>simp
 | cons t l ih=>
   have h1:=ih fun x hx=>h x (List.mem_cons_of_mem _ hx)
   have h2:=h t List.mem_cons_self
   have h3:=keysL_len ((t.ops.filter fun o=>true).map OpD.key)
   rw [List.length_map] at h3
   have h4:=List.length_filter_le (fun o:OpD=>true) t.ops
   rw [List.flatMap_cons,List.length_append,List.length_cons]
   omega
theorem keysD_eq (d:DeltaD):keysL (([d.was,d.now].flatten.flatMap fun t:TxD=>keysL ((t.ops.filter fun o=>true).map OpD.key))++([d.old,d.new].flatten.map OrdD.key))=keysD d:=by
 unfold keysD
 refine inc_unique (keysL_inc _).1 (keysL_inc _).1 fun x=>?_
 rw [(keysL_inc _).2,(keysL_inc _).2,List.mem_append,List.mem_append,List.mem_flatMap,List.mem_flatMap]
 refine or_congr ?_ (by simp)
 constructor
 · rintro ⟨t,ht,hx⟩
   rw [(keysL_inc _).2] at hx
   exact ⟨t,by simpa using ht,by simpa using hx⟩
 · rintro ⟨t,ht,hx⟩
   exact ⟨t,by simpa using ht,by rw [(keysL_inc _).2];simpa using hx⟩
theorem keysD_c (d:DeltaD) (hd:SmallD d) (hkl:d.was.length+d.now.length≤500):FnP Tryz.prog 33 [.agg (rDelta d)] (.sl rInt (keysD d)):=by
 refine FnP.mk Tryz.func33 rfl Tryz.ntmps33 rfl ?_
 intro B a w F hB hfr hS
 have hw1:d.was.length≤1000:=hd.1.1.1
 have hw2:d.now.length≤1000:=hd.2.1.1
 have hw3:d.old.length≤1000:=hd.1.2.1
 have hw4:d.new.length≤1000:=hd.2.2.1
 have hOe:[d.old,d.new].flatten.length=d.old.length+d.new.length:=by simp
 have hOl:[d.old,d.new].flatten.length≤2000:=by omega
 refine wp_seq ?_
 refine region_q hS (qf (oX 101 (.conv .t .agg)) r1 qz (qf (oN (.c rfl)) trivial qz qZ)) hB ?_
 clear hS;intro a w F hS
 replace hS:=hS.sub
 obtain ⟨F,hS⟩:=hS.nm [2,1] [101,0] rfl rfl
 try dsimp only [RS.sub,SF.sub,CF.sub,csub,Anc.sub,List.map,zCF,rHist,rTx,rOrd,rVer,rInt,rOp,rDelta] at hS
 generalize Act.tau a 1=v1 at hS
 refine then_n (wp_seq ?_)
 refine region_z hS (qf (oN (.c rfl)) trivial qz qZ) hB [3,2,1] [101,0] rfl rfl ?_
 clear hS;intro a w F hS
 refine then_n (wp_seq (wp_seq ?_))
 refine region_z hS (qf (oF 0 101 .is) r1 r1 (qf (oL false 1 101 .adr) r1 r1 (qf (oF 1 101 .is) r1 r1 (qf (oL false 1 101 .adr) r1 r1 (qf (o_buildA (sz:=1) (r:=[(0,.tmp 11),(1,.tmp 13)]) (zs:=[.slice none 0 0,.slice none 0 0]) (pl:=[(0,1),(1,1)]) Tryz.underlying104 (by kernel_rfl) (by kernel_rfl) rfl (.one rfl .t one_sl (by kernel_rfl) (.one rfl .t one_sl (by kernel_rfl) .nil)) (by rfl)) r2 qz (qf (oM qi) trivial qz qZ)))))) hB [15,14,3,2,1] [101,0] rfl rfl ?_
 clear hS;intro a w F hS
 refine then_n (wp_block ?_)
 replace hS:=hS.fresh 50 rfl
 replace hS:=hS.turn 50 rfl (nilRow (T:=3) (sz:=1) (R:=rInt))
 refine loop_keep (σ:=Nat×Value×List Int) [1,2,14] [0,101] (fun s=>[(15,.pv (.int .i64 (s.1:Int))),(3,.pv (.is s.2.1))]) (fun s=>[(50,.ob (.val s.2.1) (rowH 3 1 rInt s.2.2))]) (fun s=>s.1≤2∧s.2.2=(([d.was,d.now].take s.1).flatten.flatMap fun t:TxD=>keysL ((t.ops.filter fun o=>true).map OpD.key))) (fun s=>2 - s.1) ((0),(.slice none 0 0),([])) hS ⟨rfl,rfl,rfl,rfl,rfl,trivial⟩ ⟨rfl,rfl,rfl,trivial⟩ ⟨Nat.zero_le _,rfl⟩ ?_
 clear hS;intro s a w F hC hS
 obtain ⟨i,v,out⟩:=s
 try dsimp only at hC
 obtain ⟨F,hS⟩:=hS.nm [15,14,3,2,1] [101,50,0] rfl rfl
 try dsimp only at hS
 obtain ⟨hi2,hK⟩:=hC
 refine wp_seq ?_
 refine region_z hS (qf (o_lss .t qi) r1 qz qZ) hB [16,15,14,3,2,1] [101,50,0] rfl rfl ?_
 clear hS;intro a w F hS
 refine then_n (wp_seq ?_)
 refine cond_b hS rfl (fun hc0=>?_) (fun hc0=>?_)
 ·skip
  have hi2:i<2:=by simp at hc0;omega
  refine wp_skip (then_n (wp_seq (wp_block (wp_seq ?_))))
  refine region_z hS (qf (o_index_one (l:=[d.was,d.now]) (p:=(fun y=>PV.sl rTx y)) Tryz.underlying104 (by kernel_rfl) (by kernel_rfl) (.conv .t (.aggU rfl rfl)) .t (by omega) (by omega) rfl) r2 qz (qN rfl rfl qZ)) hB [17,16,15,14,5,3,2,1] [101,50,0] rfl rfl ?_
  clear hS;intro a w F hS
  try simp only [Int.toNat_natCast] at hS
  obtain ⟨lc,lce⟩:∃ z,z=Go.Gm.nth [d.was,d.now] i:=⟨_,rfl⟩
  try dsimp only at hS
  rw [← lce] at hS
  have hlc:lc.length≤1000 ∧ ∀ t ∈ lc,t.ops.length≤1000:=by rw [lce];rcases i with _ | _ | i;exact hd.1.1;exact hd.2.1;omega
  have hlo:=hlc.2
  have hfo:∀ t ∈ ([d.was,d.now].take i).flatten,t.ops.length≤1000:=fun t ht=>by rcases i with _ | _ | i; (simp at ht); (simp at ht;exact hd.1.1.2 t ht);omega
  have hfl:([d.was,d.now].take i).flatten.length≤1000:=by rcases i with _ | _ | i; (simp); (simp;exact hd.1.1.1);omega
  refine then_n (wp_seq ?_)
  refine region_z hS (qM rfl rfl (qf (o_len_sl Tryz.underlying27 .t) r1 qz (qf (oM qi) trivial qz qZ))) hB [20,19,18,17,16,15,14,5,3,2,1] [101,50,0] rfl rfl ?_
  clear hS;intro a w F hS
  refine then_n (wp_block ?_)
  refine loop_keep (σ:=(Nat)×(Value)×(List Int)) [1,2,5,14,15,16,17,18,19] [0,101] (fun s=>[(20,.pv (.int .i64 (s.1:Int))),(3,.pv (.is s.2.1))]) (fun s=>[(50,.ob (.val s.2.1) (rowH 3 1 rInt s.2.2))]) (fun s=>s.1≤lc.length∧(s.2.2=((([d.was,d.now].take i).flatten++lc.take s.1).flatMap fun t:TxD=>keysL ((t.ops.filter fun o=>true).map OpD.key)))) (fun s=>lc.length - s.1) ((0),(v),(out)) hS ⟨rfl,rfl,rfl,rfl,rfl,rfl,rfl,rfl,rfl,rfl,rfl,trivial⟩ ⟨rfl,rfl,rfl,trivial⟩ ⟨Nat.zero_le _,(by simpa using hK)⟩ ?_
  clear hS;intro s a w F hC hS
  obtain ⟨j,v2,out2⟩:=s
  try dsimp only at hC
  obtain ⟨F,hS⟩:=hS.nm [20,19,18,17,16,15,14,5,3,2,1] [101,50,0] rfl rfl
  try dsimp only at hS
  obtain ⟨hi,hq⟩:=hC
  have hol:out2.length≤3000000:=by rw [hq];refine Nat.le_trans (touch_len fun t ht=>?_) (by rw [List.length_append,List.length_take];omega);rcases List.mem_append.1 ht with h | h;exact hfo t h;exact hlo t (List.mem_of_mem_take h)
  refine wp_seq ?_
  refine region_z hS (qf (o_lss .t .t) r2 qz qZ) hB [21,20,19,18,17,16,15,14,5,3,2,1] [101,50,0] rfl rfl ?_
  clear hS;intro a w F hS
  refine then_n (wp_seq ?_)
  refine cond_b hS rfl (fun hc1=>?_) (fun hc1=>?_)
  ·skip
   have hil:j<lc.length:=by simp at hc1;omega
   have htl:(keysL (((Go.Gm.nth lc j).ops.filter fun o=>true).map OpD.key)).length≤1000:=by have h1:=hlo _ (nth_mem hil);have h3:=keysL_len (((Go.Gm.nth lc j).ops.filter fun o=>true).map OpD.key);rw [List.length_map] at h3;have h4:=List.length_filter_le (fun o:OpD=>true) (Go.Gm.nth lc j).ops;omega
   refine wp_skip (then_n (wp_seq (wp_block (wp_seq ?_))))
   refine region_q hS (qf (o_indexAddr_sl (sz:=3) (.mk Tryz.underlying27 (by kernel_rfl)) (by intro x;rfl) .t .t (by omega) (by omega)) r2 qz (qf (oR true 3 .t) r1 qz (qf (oH [.int .i64 0,.bool false,.slice none 0 0] 102) trivial qz (qf (oA 3 102 .same .t) r2 r1 qZ)))) hB ?_
   clear hS;intro a w F hS
   replace hS:=hS.sub
   obtain ⟨F,hS⟩:=hS.nm [23,22,21,20,19,18,17,16,15,14,7,5,3,2,1] [102,101,50,0] rfl rfl
   try dsimp only [RS.sub,SF.sub,CF.sub,csub,Anc.sub,List.map,stCells,xL,xM,Nat.reduceAdd,xD,xE,xT,xU,xC,xN,zCF,ldSF,rHist,rTx,rOrd,rVer,rInt,rOp,rDelta] at hS
   generalize Act.tau a 7=v7 at hS
   try simp only [Int.toNat_natCast] at hS
   refine then_n ?_
   refine region_q hS (qM rfl rfl (qf (oL true 3 102 .is) r1 r1 (qf (oP (tTouched_c (Go.Gm.nth lc j) (by have:=hlo _ (nth_mem hil);omega)) Tryz.func80 (Args.one (.pagg .t))) r1 qz (qf (o_append (sz:=1) (bs:=8) 50 (.mk' Tryz.underlying35 (by kernel_rfl) (by kernel_rfl)) (by intro x;rfl) .is (.sl .t) (by omega) (by decide)) ⟨rfl,rfl,trivial⟩ ⟨rfl,trivial⟩ (qN rfl rfl qZ))))) hB ?_
   clear hS;intro a w F hS
   replace hS:=hS.sub
   obtain ⟨F,hS⟩:=hS.nm [27,26,25,24,23,22,21,20,19,18,17,16,15,14,7,5,3,2,1] [102,101,50,0] rfl rfl
   try dsimp only [RS.sub,SF.sub,CF.sub,csub,Anc.sub,List.map,xD,xE,xT,xU,xC,xN,ldSF,rHist,rTx,rOrd,rVer,rInt,rOp,rDelta] at hS
   generalize Act.tau a 27=v27 at hS
   refine block_n (then_n ?_)
   refine region_z hS (qf (o_add .t qi) r1 qz (qM rfl rfl qZ)) hB [28,27,26,25,24,23,22,21,20,19,18,17,16,15,14,7,5,3,2,1] [102,101,50,0] rfl rfl ?_
   clear hS;intro a w F hS
   refine then_n ?_
   replace hS:=hS.ent (i:=20) (s':=.pv (.int .i64 ((j+1:Nat):Int))) rfl (.int (wrap_succ (by omega)))
   obtain ⟨F,hS⟩:=hS.nm [19,18,17,16,15,14,5,2,1,3,20] [101,0,50] rfl rfl
   exact ⟨((j+1),_,_),F,⟨by omega,(by rw [take_nth hil,← List.append_assoc,List.flatMap_append,← hq];simp)⟩,hS,by omega⟩
  have hil:j=lc.length:=by simp at hc1;omega
  have hK2:out2=(([d.was,d.now].take (i+1)).flatten.flatMap fun t:TxD=>keysL ((t.ops.filter fun o=>true).map OpD.key)):=by rw [hq,hil,List.take_length,take_nth (l:=[d.was,d.now]) (i:=i) (by simp;omega),List.flatten_append,List.flatten_cons,List.flatten_nil,List.append_nil,← lce]
  refine wp_exit (then_x (then_x (block_x (block_n (then_n ?_)))))
  refine region_z hS (qf (o_add .t qi) r1 qz (qM rfl rfl qZ)) hB [29,21,20,19,18,17,16,15,14,5,3,2,1] [101,50,0] rfl rfl ?_
  clear hS;intro a w F hS
  refine then_n ?_
  replace hS:=hS.ent (i:=15) (s':=.pv (.int .i64 ((i+1:Nat):Int))) rfl (.int (wrap_succ (by omega)))
  obtain ⟨F,hS⟩:=hS.nm [14,2,1,3,15] [101,0,50] rfl rfl
  exact ⟨((i+1),_,(out2)),F,⟨by omega,hK2⟩,hS,by omega⟩
 have hK4:out=([d.was,d.now].flatten.flatMap fun t:TxD=>keysL ((t.ops.filter fun o=>true).map OpD.key)):=by rw [hK,show i=2 by simp at hc0;omega];rfl
 have hol4:out.length≤500000:=by rw [hK4];refine Nat.le_trans (touch_len fun t ht=>?_) (by simp;omega);simp at ht;rcases ht with h | h;exact hd.1.1.2 t h;exact hd.2.1.2 t h
 refine wp_exit (then_x (then_x (block_x (then_n (wp_seq (wp_seq ?_))))))
 refine region_z hS (qf (oF 2 101 .is) r1 r1 (qf (oL false 1 101 .adr) r1 r1 (qf (oF 3 101 .is) r1 r1 (qf (oL false 1 101 .adr) r1 r1 (qf (o_buildSliceE (sz:=1) (zs:=[.slice none 0 0]) (r:=[(0,.tmp 31),(1,.tmp 33)]) (l:=[_,_]) Tryz.underlying144 (by kernel_rfl) (by kernel_rfl) (by kernel_rfl) (by kernel_rfl) rfl rfl (.one rfl .t one_sl (by kernel_rfl) (.one rfl .t one_sl (by kernel_rfl) .nil)) rfl) r2 qz (qf (oP (concR_c [d.old,d.new] (by simp;omega) (by simp)) Tryz.func81 (Args.one (.conv .t (Ent.arrSl (R:=rSlO) (l:=[d.old,d.new]) rfl)))) r1 qz (qf (o_len_sl Tryz.underlying28 .t) r1 qz (qf (oM qi) trivial qz qZ)))))))) hB [37,36,35,3,2] [101,50,0] rfl rfl ?_
 clear hS;intro a w F hS
 refine then_n (wp_block ?_)
 refine loop_keep (σ:=(Nat)×(Value)×(List Int)) [2,35,36] [0,101] (fun s=>[(37,.pv (.int .i64 (s.1:Int))),(3,.pv (.is s.2.1))]) (fun s=>[(50,.ob (.val s.2.1) (rowH 3 1 rInt s.2.2))]) (fun s=>s.1≤[d.old,d.new].flatten.length∧(s.2.2=out++([d.old,d.new].flatten.take s.1).map OrdD.key)) (fun s=>[d.old,d.new].flatten.length - s.1) ((0),(v),(out)) hS ⟨rfl,rfl,rfl,rfl,rfl,trivial⟩ ⟨rfl,rfl,rfl,trivial⟩ ⟨Nat.zero_le _,(by simp)⟩ ?_
 clear hS;intro s a w F hC hS
 obtain ⟨i,v3,out3⟩:=s
 try dsimp only at hC
 obtain ⟨F,hS⟩:=hS.nm [37,36,35,3,2] [101,50,0] rfl rfl
 try dsimp only at hS
 obtain ⟨hi,hq⟩:=hC
 have hol3:out3.length≤out.length+i:=by rw [hq,List.length_append,List.length_map,List.length_take];omega
 refine wp_seq ?_
 refine region_z hS (qf (o_lss .t .t) r2 qz qZ) hB [38,37,36,35,3,2] [101,50,0] rfl rfl ?_
 clear hS;intro a w F hS
 refine then_n (wp_seq ?_)
 refine cond_b hS rfl (fun hc2=>?_) (fun hc2=>?_)
 ·skip
  have hil:i < [d.old,d.new].flatten.length:=by simp at hc2;omega
  refine wp_skip (then_n (wp_seq (wp_block (wp_seq ?_))))
  refine region_q hS (qf (o_indexAddr_sl (sz:=2) (.mk Tryz.underlying28 (by kernel_rfl)) (by intro x;rfl) .t .t (by omega) (by omega)) r2 qz (qf (oR true 2 .t) r1 qz (qf (oH [.int .i64 0,.slice none 0 0] 103) trivial qz (qf (oA 2 103 .same .t) r2 r1 qZ)))) hB ?_
  clear hS;intro a w F hS
  replace hS:=hS.sub
  obtain ⟨F,hS⟩:=hS.nm [40,39,38,37,36,35,9,3,2] [103,101,50,0] rfl rfl
  try dsimp only [RS.sub,SF.sub,CF.sub,csub,Anc.sub,List.map,stCells,xL,xM,Nat.reduceAdd,xD,xE,xT,xU,xC,xN,zCF,ldSF,rHist,rTx,rOrd,rVer,rInt,rOp,rDelta] at hS
  generalize Act.tau a 9=v9 at hS
  try simp only [Int.toNat_natCast] at hS
  refine then_n ?_
  refine region_q hS (qM rfl rfl (qf (oF 0 103 .is) r1 r1 (qf (oL false 1 103 .adr) r1 r1 (qf (o_buildSliceE (sz:=1) (zs:=[.int .i64 0]) (r:=[(0,.tmp 43)]) (l:=[_]) Tryz.underlying35 (by kernel_rfl) (by kernel_rfl) (by kernel_rfl) (by kernel_rfl) rfl rfl (.one rfl .t one_int (by kernel_rfl) .nil) rfl) r1 qz (qf (o_append (sz:=1) (bs:=8) 50 (.mk' Tryz.underlying35 (by kernel_rfl) (by kernel_rfl)) (by intro x;rfl) .is (.arr (l':=[(Go.Gm.nth [d.old,d.new].flatten i).key]) .t) (by simp only [List.length_cons,List.length_nil];omega) (by decide)) ⟨rfl,rfl,trivial⟩ ⟨rfl,trivial⟩ (qN rfl rfl qZ)))))) hB ?_
  clear hS;intro a w F hS
  replace hS:=hS.sub
  obtain ⟨F,hS⟩:=hS.nm [45,44,43,42,41,40,39,38,37,36,35,9,3,2] [103,101,50,0] rfl rfl
  try dsimp only [RS.sub,SF.sub,CF.sub,csub,Anc.sub,List.map,stCells,xL,xM,Nat.reduceAdd,xD,xE,xT,xU,xC,xN,zCF,ldSF,rHist,rTx,rOrd,rVer,rInt,rOp,rDelta] at hS
  generalize Act.tau a 45=v45 at hS
  refine block_n (then_n ?_)
  refine region_z hS (qf (o_add .t qi) r1 qz (qM rfl rfl qZ)) hB [46,45,44,43,42,41,40,39,38,37,36,35,9,3,2] [103,101,50,0] rfl rfl ?_
  clear hS;intro a w F hS
  refine then_n ?_
  replace hS:=hS.ent (i:=37) (s':=.pv (.int .i64 ((i+1:Nat):Int))) rfl (.int (wrap_succ (by omega)))
  obtain ⟨F,hS⟩:=hS.nm [36,35,2,3,37] [101,0,50] rfl rfl
  exact ⟨((i+1),_,_),F,⟨by omega,(by rw [take_nth hil,List.map_append,← List.append_assoc,← hq];rfl)⟩,hS,by omega⟩
 have hil:i = [d.old,d.new].flatten.length:=by simp at hc2;omega
 have hg:keysL out3=keysD d:=by rw [hq,hil,List.take_length,hK4];exact keysD_eq d
 refine wp_exit (then_x (then_x (block_x (then_n (wp_seq ?_)))))
 refine region_z hS (qM rfl rfl (qf (o_callRow 50 (sort_c _ out3 (by omega)) Tryz.func82 rfl (by kernel_rfl) (Args.one .t)) r1 r1 qZ)) hB [3,2] [101,50,0] rfl rfl ?_
 clear hS;intro a w F hS
 refine then_n (wp_seq ?_)
 refine region_q hS (qM rfl rfl (qf (o_callRowN 50 (compI_c _ _ (by rw [List.length_mergeSort];omega)) Tryz.func83 rfl (by kernel_rfl) (Args.one .t) pvOne1) r1 r1 (qN rfl rfl qZ))) hB ?_
 clear hS;intro a w F hS
 replace hS:=hS.sub
 obtain ⟨F,hS⟩:=hS.nm [2] [101,50,0] rfl rfl
 try dsimp only [RS.sub,SF.sub,CF.sub,csub,Anc.sub,List.map,rHist,rTx,rOrd,rVer,rInt,rOp,rDelta] at hS
 generalize Act.tau a 50=v50 at hS
 refine then_n (wp_ret ?_)
 obtain ⟨F,hS⟩:=hS.give 50 2 rfl rfl
 refine ret_P hfr hS rfl (.tmp rfl .nil) (.one (.sl (by rw [compactG_L,keys_sorted,hg])))
end Go.Proofs.YtcfgcpcakdknkaaGreat
