/- Dm5,Dm6,Dm7,in one text. -/
import Derived.Test.YtcfgcpcakdknkaaGreatDlX
import Derived.Test.YtcfgcpcakdknkaaGreatDl3
import Derived.Test.YtcfgcpcakdknkaaGreatHiX
import Derived.Test.YtcfgcpcakdknkaaGreatDl4
import Derived.Test.YtcfgcpcakdknkaaGreatDl9
import Derived.Test.YtcfgcpcakdknkaaGreatLibE
import Derived.Test.YtcfgcpcakdknkaaGreatDmX
namespace Go.Proofs.YtcfgcpcakdknkaaGreat
open Go Go.Gm
set_option linter.unusedVariables false
set_option linter.unusedSimpArgs false
set_option maxHeartbeats 4000000
set_option maxRecDepth 8000
theorem keysL_snoc (l:List Int) (k:Int):keysL (l ++ [k])=putI (keysL l) k:=by
 unfold keysL
 rw [List.foldl_append];rfl
theorem keyf_len {l:List TxD} {i:Nat} (h:∀ t ∈ l,t.ops.length≤1000):((l.take i).flatMap fun t:TxD=>t.ops.map OpD.key).length≤1000*i:=by
 induction l generalizing i with
 | nil=>simp
 | cons t l ih=>
   cases i with
   | zero=>simp
   | succ i=>
     have h1:=ih (i:=i) fun x hx=>h x (List.mem_cons_of_mem _ hx)
     have h2:=h t List.mem_cons_self
     rw [List.take_succ_cons,List.flatMap_cons,List.length_append,List.length_map]
     omega
theorem keys14_c (d:DeltaD) (hd:SmallD d) (hkl:d.was.length+d.now.length≤500):FnP Tryz.prog 34 [.agg (rDelta d)] (.sl rInt (keysD d)):=by
 refine FnP.mk Tryz.func34 rfl Tryz.ntmps34 rfl ?_
 intro B a w F hB hfr hS
 have hla:(d.was++d.now).length=d.was.length+d.now.length:=List.length_append
 have hlb:(d.old++d.new).length=d.old.length+d.new.length:=List.length_append
 have hll:(d.was++d.now).length≤500:=by rw [List.length_append];omega
 have hol:(d.old++d.new).length≤2000:=by rw [List.length_append];have h1:d.old.length≤1000:=hd.1.2.1;have h2:d.new.length≤1000:=hd.2.2.1;omega
 have hw1:d.was.length≤1000:=hd.1.1.1
 have hw2:d.now.length≤1000:=hd.2.1.1
 have hw3:d.old.length≤1000:=hd.1.2.1
 have hw4:d.new.length≤1000:=hd.2.2.1
 have hxs:∀ t ∈ (d.was++d.now),t.ops.length≤1000:=fun t ht=>by rcases List.mem_append.1 ht with h | h;exact hd.1.1.2 t h;exact hd.2.1.2 t h
 have hkf:∀ i,(((d.was++d.now).take i).flatMap fun t:TxD=>t.ops.map OpD.key).length≤1000*i:=fun i=>keyf_len fun t ht=>hxs t ht
 have hkf2:((d.was++d.now).flatMap fun t:TxD=>t.ops.map OpD.key).length≤500000:=by have:=hkf (d.was++d.now).length;rw [List.take_length] at this;omega
 refine wp_seq ?_
 refine region_q hS (qf (oX 101 (.conv .t .agg)) r1 qz (qf (oN (.c rfl)) trivial qz qZ)) hB ?_
 clear hS;intro a w F hS
 replace hS:=hS.sub
 obtain ⟨F,hS⟩:=hS.nm [2,1] [101,0] rfl rfl
 try dsimp only [RS.sub,SF.sub,CF.sub,csub,Anc.sub,List.map,zCF,rHist,rTx,rOrd,rVer,rInt,rOp,rDelta] at hS
 generalize Act.tau a 1=v1 at hS
 refine then_n (wp_seq ?_)
 refine region_z hS (qf (oN (.c rfl)) trivial qz qZ) hB [3,2,1] [101,0] rfl rfl ?_
 clear hS;intro a w F hS
 refine then_n (wp_seq (wp_seq ?_))
 refine region_any (by kernel_rfl) hS (by kernel_rfl) (qf (o_buildSlice0 (R:=rTx) (sz:=3) 102 Tryz.underlying27 (by kernel_rfl)) trivial qz (qf (oF 0 101 .is) r1 r1 (qf (oL false 1 101 .adr) r1 r1 (qf (o_append (sz:=3) (bs:=40) 102 (.mk' Tryz.underlying27 (by kernel_rfl) (by kernel_rfl)) (by intro x;rfl) .same (.sl .t) (by simp only [List.length_append,List.length_nil];omega) (by decide)) ⟨rfl,rfl,trivial⟩ ⟨rfl,trivial⟩ (qf (oF 1 101 .is) r1 r1 (qf (oL false 1 101 .adr) r1 r1 (qf (o_append (sz:=3) (bs:=40) 102 (.mk' Tryz.underlying27 (by kernel_rfl) (by kernel_rfl)) (by intro x;rfl) .same (.sl .t) (by simp only [List.length_append,List.length_nil];omega) (by decide)) ⟨rfl,rfl,trivial⟩ ⟨rfl,trivial⟩ (qf (o_len_row 102 Tryz.underlying27 .same) r1 r1 (qf (oM qi) trivial qz qZ))))))))) (by kernel_rfl) (by rw [hB];kernel_rfl) ?_
 clear hS;intro a w F hS
 replace hS:=hS.sub
 obtain ⟨F,hS⟩:=hS.nm [18,17,16,3,2,1] [102,101,0] rfl rfl
 try dsimp only [RS.sub,SF.sub,CF.sub,csub,Anc.sub,List.map,stCells,xL,xM,Nat.reduceAdd,xD,xE,xT,xU,xC,xN,zCF,ldSF,rHist,rTx,rOrd,rVer,rInt,rOp,rDelta] at hS
 generalize Act.tau a 16=v16 at hS
 try simp only [List.nil_append] at hS
 obtain ⟨F,hS⟩:=hS.give 102 16 rfl rfl
 obtain ⟨F,hS⟩:=hS.nm [18,17,16,3,2,1] [101,0] rfl rfl
 skip
 refine then_n (wp_block ?_)
 replace hS:=hS.ent (i:=3) (s':=.pv (.sl rInt [])) rfl (.nilSl)
 refine loop_keep (σ:=(Nat)) [1,2,16,17] [0,101] (fun s=>[(18,.pv (.int .i64 (s:Int))),(3,.pv (.sl rInt (keysL (((d.was++d.now).take s).flatMap fun t:TxD=>t.ops.map OpD.key))))]) (fun s=>[]) (fun s=>s≤(d.was++d.now).length∧(True)) (fun s=>(d.was++d.now).length - s) (0) hS ⟨rfl,rfl,rfl,rfl,rfl,rfl,trivial⟩ ⟨rfl,rfl,trivial⟩ ⟨Nat.zero_le _,trivial⟩ ?_
 clear hS;intro i a w F hC hS
 try dsimp only at hC
 obtain ⟨F,hS⟩:=hS.nm [18,17,16,3,2,1] [101,0] rfl rfl
 try dsimp only at hS
 obtain ⟨hi,hq⟩:=hC
 refine wp_seq ?_
 refine region_z hS (qf (o_lss .t .t) r2 qz qZ) hB [19,18,17,16,3,2,1] [101,0] rfl rfl ?_
 clear hS;intro a w F hS
 refine then_n (wp_seq ?_)
 refine cond_b hS rfl (fun hc0=>?_) (fun hc0=>?_)
 ·skip
  have hil:i<(d.was++d.now).length:=by simp at hc0;omega
  have hio:=hil
  have hxo:=hxs _ (nth_mem hil)
  refine wp_skip (then_n (wp_seq (wp_block (wp_seq ?_))))
  refine region_q hS (qf (o_indexAddr_sl (sz:=3) (.mk Tryz.underlying27 (by kernel_rfl)) (by intro x;rfl) .t .t (by omega) (by omega)) r2 qz (qf (oR true 3 .t) r1 qz (qf (oH [.int .i64 0,.bool false,.slice none 0 0] 103) trivial qz (qf (oA 3 103 .same .t) r2 r1 qZ)))) hB ?_
  clear hS;intro a w F hS
  replace hS:=hS.sub
  obtain ⟨F,hS⟩:=hS.nm [21,20,19,18,17,16,5,3,2,1] [103,101,0] rfl rfl
  try dsimp only [RS.sub,SF.sub,CF.sub,csub,Anc.sub,List.map,stCells,xL,xM,Nat.reduceAdd,xD,xE,xT,xU,xC,xN,zCF,ldSF,rHist,rTx,rOrd,rVer,rInt,rOp,rDelta] at hS
  generalize Act.tau a 5=v5 at hS
  try simp only [Int.toNat_natCast] at hS
  refine then_n (wp_seq ?_)
  refine region_z hS (qf (oF 2 103 .is) r1 r1 (qf (oL false 1 103 .adr) r1 r1 (qf (o_len_sl Tryz.underlying32 .t) r1 qz (qf (oM qi) trivial qz qZ)))) hB [25,24,23,22,21,20,19,18,17,16,5,3,2,1] [103,101,0] rfl rfl ?_
  clear hS;intro a w F hS
  refine then_n (wp_block ?_)
  replace hS:=hS.ent (i:=3) (s':=.pv (.sl rInt (keysL ((((d.was++d.now).take i).flatMap fun t:TxD=>t.ops.map OpD.key)++((Go.Gm.nth (d.was++d.now) i).ops.take 0).map OpD.key)))) rfl ((.sl (by simp)))
  refine loop_keep (σ:=(Nat)) [1,2,5,16,17,18,19,20,21,22,23,24] [0,101,103] (fun s=>[(25,.pv (.int .i64 (s:Int))),(3,.pv (.sl rInt (keysL ((((d.was++d.now).take i).flatMap fun t:TxD=>t.ops.map OpD.key)++((Go.Gm.nth (d.was++d.now) i).ops.take s).map OpD.key))))]) (fun s=>[]) (fun s=>s≤(Go.Gm.nth (d.was++d.now) i).ops.length∧(True)) (fun s=>(Go.Gm.nth (d.was++d.now) i).ops.length - s) (0) hS ⟨rfl,rfl,rfl,rfl,rfl,rfl,rfl,rfl,rfl,rfl,rfl,rfl,rfl,rfl,trivial⟩ ⟨rfl,rfl,rfl,trivial⟩ ⟨Nat.zero_le _,trivial⟩ ?_
  clear hS;intro j a w F hC hS
  try dsimp only at hC
  obtain ⟨F,hS⟩:=hS.nm [25,24,23,22,21,20,19,18,17,16,5,3,2,1] [103,101,0] rfl rfl
  try dsimp only at hS
  obtain ⟨hi,hq⟩:=hC
  refine wp_seq ?_
  refine region_z hS (qf (o_lss .t .t) r2 qz qZ) hB [26,25,24,23,22,21,20,19,18,17,16,5,3,2,1] [103,101,0] rfl rfl ?_
  clear hS;intro a w F hS
  refine then_n (wp_seq ?_)
  refine cond_b hS rfl (fun hc1=>?_) (fun hc1=>?_)
  ·skip
   have hil:j<(Go.Gm.nth (d.was++d.now) i).ops.length:=by simp at hc1;omega
   refine wp_skip (then_n (wp_seq (wp_block (wp_seq ?_))))
   refine region_q hS (qf (o_indexAddr_sl (sz:=4) (.mk Tryz.underlying32 (by kernel_rfl)) (by intro x;rfl) .t .t (by omega) (by omega)) r2 qz (qf (oR true 4 .t) r1 qz (qf (oH [.bool false,.int .i64 0,.int .i64 0,.int .i64 0] 104) trivial qz (qf (oA 4 104 .same .t) r2 r1 qZ)))) hB ?_
   clear hS;intro a w F hS
   replace hS:=hS.sub
   obtain ⟨F,hS⟩:=hS.nm [28,27,26,25,24,23,22,21,20,19,18,17,16,7,5,3,2,1] [104,103,101,0] rfl rfl
   try dsimp only [RS.sub,SF.sub,CF.sub,csub,Anc.sub,List.map,stCells,xL,xM,Nat.reduceAdd,xD,xE,xT,xU,xC,xN,zCF,ldSF,rHist,rTx,rOrd,rVer,rInt,rOp,rDelta] at hS
   generalize Act.tau a 7=v7 at hS
   try simp only [Int.toNat_natCast] at hS
   refine then_n ?_
   refine region_z hS (qM rfl rfl (qf (oF 1 104 .is) r1 r1 (qf (oL false 1 104 .adr) r1 r1 (qf (oP (refPut_c (keysL ((((d.was++d.now).take i).flatMap fun t:TxD=>t.ops.map OpD.key)++((Go.Gm.nth (d.was++d.now) i).ops.take j).map OpD.key)) (Go.Gm.nth (Go.Gm.nth (d.was++d.now) i).ops j).key (by have h1:=keysL_len ((((d.was++d.now).take i).flatMap fun t:TxD=>t.ops.map OpD.key)++((Go.Gm.nth (d.was++d.now) i).ops.take j).map OpD.key);have h2:=hkf i;rw [List.length_append,List.length_map,List.length_take] at h1;have h3:=hxs _ (nth_mem hio);omega)) Tryz.func84 (Args.two .t .t)) r2 qz (qN rfl rfl qZ))))) hB [32,31,30,29,28,27,26,25,24,23,22,21,20,19,18,17,16,7,5,3,2,1] [104,103,101,0] rfl rfl ?_
   clear hS;intro a w F hS
   refine block_n (then_n ?_)
   refine region_z hS (qf (o_add .t qi) r1 qz (qM rfl rfl qZ)) hB [33,32,31,30,29,28,27,26,25,24,23,22,21,20,19,18,17,16,7,5,3,2,1] [104,103,101,0] rfl rfl ?_
   clear hS;intro a w F hS
   refine then_n ?_
   replace hS:=hS.ent (i:=25) (s':=.pv (.int .i64 ((j+1:Nat):Int))) rfl (.int (wrap_succ (by omega)))
   replace hS:=hS.ent (i:=3) (s':=.pv (.sl rInt (keysL ((((d.was++d.now).take i).flatMap fun t:TxD=>t.ops.map OpD.key)++((Go.Gm.nth (d.was++d.now) i).ops.take (j+1)).map OpD.key)))) rfl ((.sl (by rw [take_nth hil,List.map_append,← List.append_assoc];exact (keysL_snoc _ _).symm)))
   obtain ⟨F,hS⟩:=hS.nm [24,23,22,21,20,19,18,17,16,5,2,1,3,25] [103,101,0] rfl rfl
   exact ⟨(j+1),F,⟨by omega,trivial⟩,hS,by omega⟩
  have hil:j=(Go.Gm.nth (d.was++d.now) i).ops.length:=by simp at hc1;omega
  refine wp_exit (then_x (then_x (block_x (block_n (then_n ?_)))))
  refine region_z hS (qf (o_add .t qi) r1 qz (qM rfl rfl qZ)) hB [34,26,25,24,23,22,21,20,19,18,17,16,5,3,2,1] [103,101,0] rfl rfl ?_
  clear hS;intro a w F hS
  skip
  refine then_n ?_
  replace hS:=hS.ent (i:=18) (s':=.pv (.int .i64 ((i+1:Nat):Int))) rfl (.int (wrap_succ (by omega)))
  replace hS:=hS.ent (i:=3) (s':=.pv (.sl rInt (keysL (((d.was++d.now).take (i+1)).flatMap fun t:TxD=>t.ops.map OpD.key)))) rfl ((.sl (by rw [take_nth hio,List.flatMap_append,hil,List.take_length];simp)))
  obtain ⟨F,hS⟩:=hS.nm [17,16,2,1,3,18] [101,0] rfl rfl
  exact ⟨(i+1),F,⟨by omega,trivial⟩,hS,by omega⟩
 have hil:i=(d.was++d.now).length:=by simp at hc0;omega
 rw [hil,List.take_length] at hS
 refine wp_exit (then_x (then_x (block_x (then_n (wp_seq (wp_seq ?_))))))
 refine region_any (by kernel_rfl) hS (by kernel_rfl) (qf (o_buildSlice0 (R:=rOrd) (sz:=2) 105 Tryz.underlying28 (by kernel_rfl)) trivial qz (qf (oF 2 101 .is) r1 r1 (qf (oL false 1 101 .adr) r1 r1 (qf (o_append (sz:=2) (bs:=32) 105 (.mk' Tryz.underlying28 (by kernel_rfl) (by kernel_rfl)) (by intro x;rfl) .same (.sl .t) (by simp only [List.length_append,List.length_nil];omega) (by decide)) ⟨rfl,rfl,trivial⟩ ⟨rfl,trivial⟩ (qf (oF 3 101 .is) r1 r1 (qf (oL false 1 101 .adr) r1 r1 (qf (o_append (sz:=2) (bs:=32) 105 (.mk' Tryz.underlying28 (by kernel_rfl) (by kernel_rfl)) (by intro x;rfl) .same (.sl .t) (by simp only [List.length_append,List.length_nil];omega) (by decide)) ⟨rfl,rfl,trivial⟩ ⟨rfl,trivial⟩ (qf (o_len_row 105 Tryz.underlying28 .same) r1 r1 (qf (oM qi) trivial qz qZ))))))))) (by kernel_rfl) (by rw [hB];kernel_rfl) ?_
 clear hS;intro a w F hS
 replace hS:=hS.sub
 obtain ⟨F,hS⟩:=hS.nm [43,42,41,3,2] [105,101,0] rfl rfl
 try dsimp only [RS.sub,SF.sub,CF.sub,csub,Anc.sub,List.map,stCells,xL,xM,Nat.reduceAdd,xD,xE,xT,xU,xC,xN,zCF,ldSF,rHist,rTx,rOrd,rVer,rInt,rOp,rDelta] at hS
 generalize Act.tau a 41=v41 at hS
 try simp only [List.nil_append] at hS
 obtain ⟨F,hS⟩:=hS.give 105 41 rfl rfl
 obtain ⟨F,hS⟩:=hS.nm [43,42,41,3,2] [101,0] rfl rfl
 refine then_n (wp_block ?_)
 replace hS:=hS.ent (i:=3) (s':=.pv (.sl rInt (keysL (((d.was++d.now).flatMap fun t:TxD=>t.ops.map OpD.key)++((d.old++d.new).take 0).map OrdD.key)))) rfl ((.sl (by simp)))
 refine loop_keep (σ:=(Nat)) [2,41,42] [0,101] (fun s=>[(43,.pv (.int .i64 (s:Int))),(3,.pv (.sl rInt (keysL (((d.was++d.now).flatMap fun t:TxD=>t.ops.map OpD.key)++((d.old++d.new).take s).map OrdD.key))))]) (fun s=>[]) (fun s=>s≤(d.old++d.new).length∧(True)) (fun s=>(d.old++d.new).length - s) (0) hS ⟨rfl,rfl,rfl,rfl,rfl,trivial⟩ ⟨rfl,rfl,trivial⟩ ⟨Nat.zero_le _,trivial⟩ ?_
 clear hS;intro i a w F hC hS
 try dsimp only at hC
 obtain ⟨F,hS⟩:=hS.nm [43,42,41,3,2] [101,0] rfl rfl
 try dsimp only at hS
 obtain ⟨hi,hq⟩:=hC
 refine wp_seq ?_
 refine region_z hS (qf (o_lss .t .t) r2 qz qZ) hB [44,43,42,41,3,2] [101,0] rfl rfl ?_
 clear hS;intro a w F hS
 refine then_n (wp_seq ?_)
 refine cond_b hS rfl (fun hc2=>?_) (fun hc2=>?_)
 ·skip
  have hil:i<(d.old++d.new).length:=by simp at hc2;omega
  refine wp_skip (then_n (wp_seq (wp_block (wp_seq ?_))))
  refine region_q hS (qf (o_indexAddr_sl (sz:=2) (.mk Tryz.underlying28 (by kernel_rfl)) (by intro x;rfl) .t .t (by omega) (by omega)) r2 qz (qf (oR true 2 .t) r1 qz (qf (oH [.int .i64 0,.slice none 0 0] 106) trivial qz (qf (oA 2 106 .same .t) r2 r1 qZ)))) hB ?_
  clear hS;intro a w F hS
  replace hS:=hS.sub
  obtain ⟨F,hS⟩:=hS.nm [46,45,44,43,42,41,9,3,2] [106,101,0] rfl rfl
  try dsimp only [RS.sub,SF.sub,CF.sub,csub,Anc.sub,List.map,stCells,xL,xM,Nat.reduceAdd,xD,xE,xT,xU,xC,xN,zCF,ldSF,rHist,rTx,rOrd,rVer,rInt,rOp,rDelta] at hS
  generalize Act.tau a 9=v9 at hS
  try simp only [Int.toNat_natCast] at hS
  refine then_n ?_
  refine region_z hS (qM rfl rfl (qf (oF 0 106 .is) r1 r1 (qf (oL false 1 106 .adr) r1 r1 (qf (oP (refPut_c (keysL (((d.was++d.now).flatMap fun t:TxD=>t.ops.map OpD.key)++((d.old++d.new).take i).map OrdD.key)) (Go.Gm.nth (d.old++d.new) i).key (by have h1:=keysL_len (((d.was++d.now).flatMap fun t:TxD=>t.ops.map OpD.key)++((d.old++d.new).take i).map OrdD.key);rw [List.length_append,List.length_map,List.length_take] at h1;omega)) Tryz.func84 (Args.two .t .t)) r2 qz (qN rfl rfl qZ))))) hB [50,49,48,47,46,45,44,43,42,41,9,3,2] [106,101,0] rfl rfl ?_
  clear hS;intro a w F hS
  refine block_n (then_n ?_)
  refine region_z hS (qf (o_add .t qi) r1 qz (qM rfl rfl qZ)) hB [51,50,49,48,47,46,45,44,43,42,41,9,3,2] [106,101,0] rfl rfl ?_
  clear hS;intro a w F hS
  refine then_n ?_
  replace hS:=hS.ent (i:=43) (s':=.pv (.int .i64 ((i+1:Nat):Int))) rfl (.int (wrap_succ (by omega)))
  replace hS:=hS.ent (i:=3) (s':=.pv (.sl rInt (keysL (((d.was++d.now).flatMap fun t:TxD=>t.ops.map OpD.key)++((d.old++d.new).take (i+1)).map OrdD.key)))) rfl ((.sl (by rw [take_nth hil,List.map_append,← List.append_assoc];exact (keysL_snoc _ _).symm)))
  obtain ⟨F,hS⟩:=hS.nm [42,41,2,3,43] [101,0] rfl rfl
  exact ⟨(i+1),F,⟨by omega,trivial⟩,hS,by omega⟩
 have hil:i=(d.old++d.new).length:=by simp at hc2;omega
 refine wp_exit (then_x (then_x (block_x (then_n (wp_seq ?_)))))
 refine region_z hS (qM rfl rfl (qN rfl rfl qZ)) hB [2] [101,0] rfl rfl ?_
 clear hS;intro a w F hS
 refine then_n (wp_ret ?_)
 refine ret_P hfr hS rfl (.tmp rfl .nil) (.one (.sl (by rw [hil,List.take_length];rfl)))
theorem ids14_c (d e:DeltaD) (hd:SmallD d) (he:SmallD e):FnP Tryz.prog 72 [.agg (rDelta d),.agg (rDelta e)] (.sl rInt (keysK TxD.id d.was d.now e.was e.now)):=by
 refine FnP.mk Tryz.func72 rfl Tryz.ntmps72 rfl ?_
 intro B a w F hB hfr hS
 have h1:d.was.length≤1000:=hd.1.1.1
 have h2:d.now.length≤1000:=hd.2.1.1
 have h3:e.was.length≤1000:=he.1.1.1
 have h4:e.now.length≤1000:=he.2.1.1
 have hla:(d.was++d.now++e.was++e.now).length=d.was.length+d.now.length+e.was.length+e.now.length:=by simp only [List.length_append]
 have hll:(d.was++d.now++e.was++e.now).length≤4000:=by omega
 refine wp_seq ?_
 refine region_q hS (qf (oX 101 (.conv .t .agg)) r1 qz (qf (oX 102 (.conv .t .agg)) r1 qz (qf (oN (.c rfl)) trivial qz qZ))) hB ?_
 clear hS;intro a w F hS
 replace hS:=hS.sub
 obtain ⟨F,hS⟩:=hS.nm [4,3,2] [102,101,0] rfl rfl
 try dsimp only [RS.sub,SF.sub,CF.sub,csub,Anc.sub,List.map,zCF,rHist,rTx,rOrd,rVer,rInt,rOp,rDelta] at hS
 generalize Act.tau a 2=v2 at hS
 generalize Act.tau a 3=v3 at hS
 refine then_n (wp_seq ?_)
 refine region_z hS (qf (oN (.c rfl)) trivial qz qZ) hB [5,4,3,2] [102,101,0] rfl rfl ?_
 clear hS;intro a w F hS
 refine then_n (wp_seq (wp_seq ?_))
 refine region_any (by kernel_rfl) hS (by kernel_rfl) (qf (o_buildSlice0 (R:=rTx) (sz:=3) 103 Tryz.underlying27 (by kernel_rfl)) trivial qz (qf (oF 0 101 .is) r1 r1 (qf (oL false 1 101 .adr) r1 r1 (qf (o_append (sz:=3) (bs:=40) 103 (.mk' Tryz.underlying27 (by kernel_rfl) (by kernel_rfl)) (by intro x;rfl) .same (.sl .t) (by simp only [List.length_append,List.length_nil];omega) (by decide)) ⟨rfl,rfl,trivial⟩ ⟨rfl,trivial⟩ (qf (oF 1 101 .is) r1 r1 (qf (oL false 1 101 .adr) r1 r1 (qf (o_append (sz:=3) (bs:=40) 103 (.mk' Tryz.underlying27 (by kernel_rfl) (by kernel_rfl)) (by intro x;rfl) .same (.sl .t) (by simp only [List.length_append,List.length_nil];omega) (by decide)) ⟨rfl,rfl,trivial⟩ ⟨rfl,trivial⟩ (qf (oF 0 102 .is) r1 r1 (qf (oL false 1 102 .adr) r1 r1 (qf (o_append (sz:=3) (bs:=40) 103 (.mk' Tryz.underlying27 (by kernel_rfl) (by kernel_rfl)) (by intro x;rfl) .same (.sl .t) (by simp only [List.length_append,List.length_nil];omega) (by decide)) ⟨rfl,rfl,trivial⟩ ⟨rfl,trivial⟩ (qf (oF 1 102 .is) r1 r1 (qf (oL false 1 102 .adr) r1 r1 (qf (o_append (sz:=3) (bs:=40) 103 (.mk' Tryz.underlying27 (by kernel_rfl) (by kernel_rfl)) (by intro x;rfl) .same (.sl .t) (by simp only [List.length_append,List.length_nil];omega) (by decide)) ⟨rfl,rfl,trivial⟩ ⟨rfl,trivial⟩ (qf (o_len_row 103 Tryz.underlying27 .same) r1 r1 (qf (oM qi) trivial qz qZ))))))))))))))) (by kernel_rfl) (by rw [hB];kernel_rfl) ?_
 clear hS;intro a w F hS
 replace hS:=hS.sub
 obtain ⟨F,hS⟩:=hS.nm [22,21,20,5,4] [103,102,101,0] rfl rfl
 try dsimp only [RS.sub,SF.sub,CF.sub,csub,Anc.sub,List.map,stCells,xL,xM,Nat.reduceAdd,xD,xE,xT,xU,xC,xN,zCF,ldSF,rHist,rTx,rOrd,rVer,rInt,rOp,rDelta] at hS
 generalize Act.tau a 20=v20 at hS
 try simp only [List.nil_append] at hS
 obtain ⟨F,hS⟩:=hS.give 103 20 rfl rfl
 obtain ⟨F,hS⟩:=hS.nm [22,21,20,5,4] [102,101,0] rfl rfl
 refine then_n (wp_block ?_)
 replace hS:=hS.ent (i:=5) (s':=.pv (.sl rInt [])) rfl (.nilSl)
 refine loop_keep (σ:=(Nat)) [4,20,21] [0,101,102] (fun s=>[(22,.pv (.int .i64 (s:Int))),(5,.pv (.sl rInt (keysL (((d.was++d.now++e.was++e.now).take s).map TxD.id))))]) (fun s=>[]) (fun s=>s≤(d.was++d.now++e.was++e.now).length∧(True)) (fun s=>(d.was++d.now++e.was++e.now).length - s) (0) hS ⟨rfl,rfl,rfl,rfl,rfl,trivial⟩ ⟨rfl,rfl,rfl,trivial⟩ ⟨Nat.zero_le _,trivial⟩ ?_
 clear hS;intro i a w F hC hS
 try dsimp only at hC
 obtain ⟨F,hS⟩:=hS.nm [22,21,20,5,4] [102,101,0] rfl rfl
 try dsimp only at hS
 obtain ⟨hi,hq⟩:=hC
 refine wp_seq ?_
 refine region_z hS (qf (o_lss .t .t) r2 qz qZ) hB [23,22,21,20,5,4] [102,101,0] rfl rfl ?_
 clear hS;intro a w F hS
 refine then_n (wp_seq ?_)
 refine cond_b hS rfl (fun hc0=>?_) (fun hc0=>?_)
 ·skip
  have hil:i<(d.was++d.now++e.was++e.now).length:=by simp at hc0;omega
  refine wp_skip (then_n (wp_seq (wp_block (wp_seq ?_))))
  refine region_q hS (qf (o_indexAddr_sl (sz:=3) (.mk Tryz.underlying27 (by kernel_rfl)) (by intro x;rfl) .t .t (by omega) (by omega)) r2 qz (qf (oR true 3 .t) r1 qz (qf (oH [.int .i64 0,.bool false,.slice none 0 0] 104) trivial qz (qf (oA 3 104 .same .t) r2 r1 qZ)))) hB ?_
  clear hS;intro a w F hS
  replace hS:=hS.sub
  obtain ⟨F,hS⟩:=hS.nm [25,24,23,22,21,20,7,5,4] [104,102,101,0] rfl rfl
  try dsimp only [RS.sub,SF.sub,CF.sub,csub,Anc.sub,List.map,stCells,xL,xM,Nat.reduceAdd,xD,xE,xT,xU,xC,xN,zCF,ldSF,rHist,rTx,rOrd,rVer,rInt,rOp,rDelta] at hS
  generalize Act.tau a 7=v7 at hS
  try simp only [Int.toNat_natCast] at hS
  refine then_n ?_
  refine region_z hS (qM rfl rfl (qf (oF 0 104 .is) r1 r1 (qf (oL false 1 104 .adr) r1 r1 (qf (oP (refPut_c (keysL (((d.was++d.now++e.was++e.now).take i).map TxD.id)) (Go.Gm.nth (d.was++d.now++e.was++e.now) i).id (by have h9:=keysL_len (((d.was++d.now++e.was++e.now).take i).map TxD.id);rw [List.length_map,List.length_take] at h9;omega)) Tryz.func84 (Args.two .t .t)) r2 qz (qN rfl rfl qZ))))) hB [29,28,27,26,25,24,23,22,21,20,7,5,4] [104,102,101,0] rfl rfl ?_
  clear hS;intro a w F hS
  refine block_n (then_n ?_)
  refine region_z hS (qf (o_add .t qi) r1 qz (qM rfl rfl qZ)) hB [30,29,28,27,26,25,24,23,22,21,20,7,5,4] [104,102,101,0] rfl rfl ?_
  clear hS;intro a w F hS
  refine then_n ?_
  replace hS:=hS.ent (i:=22) (s':=.pv (.int .i64 ((i+1:Nat):Int))) rfl (.int (wrap_succ (by omega)))
  replace hS:=hS.ent (i:=5) (s':=.pv (.sl rInt (keysL (((d.was++d.now++e.was++e.now).take (i+1)).map TxD.id)))) rfl ((.sl (by rw [take_nth hil,List.map_append];unfold keysL;rw [List.foldl_append];rfl)))
  obtain ⟨F,hS⟩:=hS.nm [21,20,4,5,22] [102,101,0] rfl rfl
  exact ⟨(i+1),F,⟨by omega,trivial⟩,hS,by omega⟩
 have hil:i=(d.was++d.now++e.was++e.now).length:=by simp at hc0;omega
 refine wp_exit (then_x (then_x (block_x (then_n (wp_seq ?_)))))
 refine region_z hS (qM rfl rfl (qN rfl rfl qZ)) hB [4] [102,101,0] rfl rfl ?_
 clear hS;intro a w F hS
 refine then_n (wp_ret ?_)
 refine ret_P hfr hS rfl (.tmp rfl .nil) (.one (.sl (by rw [hil,List.take_length];rfl)))
theorem keysO14_c (d e:DeltaD) (hd:SmallD d) (he:SmallD e):FnP Tryz.prog 74 [.agg (rDelta d),.agg (rDelta e)] (.sl rInt (keysK OrdD.key d.old d.new e.old e.new)):=by
 refine FnP.mk Tryz.func74 rfl Tryz.ntmps74 rfl ?_
 intro B a w F hB hfr hS
 have h1:d.old.length≤1000:=hd.1.2.1
 have h2:d.new.length≤1000:=hd.2.2.1
 have h3:e.old.length≤1000:=he.1.2.1
 have h4:e.new.length≤1000:=he.2.2.1
 have hla:(d.old++d.new++e.old++e.new).length=d.old.length+d.new.length+e.old.length+e.new.length:=by simp only [List.length_append]
 have hll:(d.old++d.new++e.old++e.new).length≤4000:=by omega
 refine wp_seq ?_
 refine region_q hS (qf (oX 101 (.conv .t .agg)) r1 qz (qf (oX 102 (.conv .t .agg)) r1 qz (qf (oN (.c rfl)) trivial qz qZ))) hB ?_
 clear hS;intro a w F hS
 replace hS:=hS.sub
 obtain ⟨F,hS⟩:=hS.nm [4,3,2] [102,101,0] rfl rfl
 try dsimp only [RS.sub,SF.sub,CF.sub,csub,Anc.sub,List.map,zCF,rHist,rTx,rOrd,rVer,rInt,rOp,rDelta] at hS
 generalize Act.tau a 2=v2 at hS
 generalize Act.tau a 3=v3 at hS
 refine then_n (wp_seq ?_)
 refine region_z hS (qf (oN (.c rfl)) trivial qz qZ) hB [5,4,3,2] [102,101,0] rfl rfl ?_
 clear hS;intro a w F hS
 refine then_n (wp_seq (wp_seq ?_))
 refine region_any (by kernel_rfl) hS (by kernel_rfl) (qf (o_buildSlice0 (R:=rOrd) (sz:=2) 103 Tryz.underlying28 (by kernel_rfl)) trivial qz (qf (oF 2 101 .is) r1 r1 (qf (oL false 1 101 .adr) r1 r1 (qf (o_append (sz:=2) (bs:=32) 103 (.mk' Tryz.underlying28 (by kernel_rfl) (by kernel_rfl)) (by intro x;rfl) .same (.sl .t) (by simp only [List.length_append,List.length_nil];omega) (by decide)) ⟨rfl,rfl,trivial⟩ ⟨rfl,trivial⟩ (qf (oF 3 101 .is) r1 r1 (qf (oL false 1 101 .adr) r1 r1 (qf (o_append (sz:=2) (bs:=32) 103 (.mk' Tryz.underlying28 (by kernel_rfl) (by kernel_rfl)) (by intro x;rfl) .same (.sl .t) (by simp only [List.length_append,List.length_nil];omega) (by decide)) ⟨rfl,rfl,trivial⟩ ⟨rfl,trivial⟩ (qf (oF 2 102 .is) r1 r1 (qf (oL false 1 102 .adr) r1 r1 (qf (o_append (sz:=2) (bs:=32) 103 (.mk' Tryz.underlying28 (by kernel_rfl) (by kernel_rfl)) (by intro x;rfl) .same (.sl .t) (by simp only [List.length_append,List.length_nil];omega) (by decide)) ⟨rfl,rfl,trivial⟩ ⟨rfl,trivial⟩ (qf (oF 3 102 .is) r1 r1 (qf (oL false 1 102 .adr) r1 r1 (qf (o_append (sz:=2) (bs:=32) 103 (.mk' Tryz.underlying28 (by kernel_rfl) (by kernel_rfl)) (by intro x;rfl) .same (.sl .t) (by simp only [List.length_append,List.length_nil];omega) (by decide)) ⟨rfl,rfl,trivial⟩ ⟨rfl,trivial⟩ (qf (o_len_row 103 Tryz.underlying28 .same) r1 r1 (qf (oM qi) trivial qz qZ))))))))))))))) (by kernel_rfl) (by rw [hB];kernel_rfl) ?_
 clear hS;intro a w F hS
 replace hS:=hS.sub
 obtain ⟨F,hS⟩:=hS.nm [22,21,20,5,4] [103,102,101,0] rfl rfl
 try dsimp only [RS.sub,SF.sub,CF.sub,csub,Anc.sub,List.map,stCells,xL,xM,Nat.reduceAdd,xD,xE,xT,xU,xC,xN,zCF,ldSF,rHist,rTx,rOrd,rVer,rInt,rOp,rDelta] at hS
 generalize Act.tau a 20=v20 at hS
 try simp only [List.nil_append] at hS
 obtain ⟨F,hS⟩:=hS.give 103 20 rfl rfl
 obtain ⟨F,hS⟩:=hS.nm [22,21,20,5,4] [102,101,0] rfl rfl
 refine then_n (wp_block ?_)
 replace hS:=hS.ent (i:=5) (s':=.pv (.sl rInt [])) rfl (.nilSl)
 refine loop_keep (σ:=(Nat)) [4,20,21] [0,101,102] (fun s=>[(22,.pv (.int .i64 (s:Int))),(5,.pv (.sl rInt (keysL (((d.old++d.new++e.old++e.new).take s).map OrdD.key))))]) (fun s=>[]) (fun s=>s≤(d.old++d.new++e.old++e.new).length∧(True)) (fun s=>(d.old++d.new++e.old++e.new).length - s) (0) hS ⟨rfl,rfl,rfl,rfl,rfl,trivial⟩ ⟨rfl,rfl,rfl,trivial⟩ ⟨Nat.zero_le _,trivial⟩ ?_
 clear hS;intro i a w F hC hS
 try dsimp only at hC
 obtain ⟨F,hS⟩:=hS.nm [22,21,20,5,4] [102,101,0] rfl rfl
 try dsimp only at hS
 obtain ⟨hi,hq⟩:=hC
 refine wp_seq ?_
 refine region_z hS (qf (o_lss .t .t) r2 qz qZ) hB [23,22,21,20,5,4] [102,101,0] rfl rfl ?_
 clear hS;intro a w F hS
 refine then_n (wp_seq ?_)
 refine cond_b hS rfl (fun hc0=>?_) (fun hc0=>?_)
 ·skip
  have hil:i<(d.old++d.new++e.old++e.new).length:=by simp at hc0;omega
  refine wp_skip (then_n (wp_seq (wp_block (wp_seq ?_))))
  refine region_q hS (qf (o_indexAddr_sl (sz:=2) (.mk Tryz.underlying28 (by kernel_rfl)) (by intro x;rfl) .t .t (by omega) (by omega)) r2 qz (qf (oR true 2 .t) r1 qz (qf (oH [.int .i64 0,.slice none 0 0] 104) trivial qz (qf (oA 2 104 .same .t) r2 r1 qZ)))) hB ?_
  clear hS;intro a w F hS
  replace hS:=hS.sub
  obtain ⟨F,hS⟩:=hS.nm [25,24,23,22,21,20,7,5,4] [104,102,101,0] rfl rfl
  try dsimp only [RS.sub,SF.sub,CF.sub,csub,Anc.sub,List.map,stCells,xL,xM,Nat.reduceAdd,xD,xE,xT,xU,xC,xN,zCF,ldSF,rHist,rTx,rOrd,rVer,rInt,rOp,rDelta] at hS
  generalize Act.tau a 7=v7 at hS
  try simp only [Int.toNat_natCast] at hS
  refine then_n ?_
  refine region_z hS (qM rfl rfl (qf (oF 0 104 .is) r1 r1 (qf (oL false 1 104 .adr) r1 r1 (qf (oP (refPut_c (keysL (((d.old++d.new++e.old++e.new).take i).map OrdD.key)) (Go.Gm.nth (d.old++d.new++e.old++e.new) i).key (by have h9:=keysL_len (((d.old++d.new++e.old++e.new).take i).map OrdD.key);rw [List.length_map,List.length_take] at h9;omega)) Tryz.func84 (Args.two .t .t)) r2 qz (qN rfl rfl qZ))))) hB [29,28,27,26,25,24,23,22,21,20,7,5,4] [104,102,101,0] rfl rfl ?_
  clear hS;intro a w F hS
  refine block_n (then_n ?_)
  refine region_z hS (qf (o_add .t qi) r1 qz (qM rfl rfl qZ)) hB [30,29,28,27,26,25,24,23,22,21,20,7,5,4] [104,102,101,0] rfl rfl ?_
  clear hS;intro a w F hS
  refine then_n ?_
  replace hS:=hS.ent (i:=22) (s':=.pv (.int .i64 ((i+1:Nat):Int))) rfl (.int (wrap_succ (by omega)))
  replace hS:=hS.ent (i:=5) (s':=.pv (.sl rInt (keysL (((d.old++d.new++e.old++e.new).take (i+1)).map OrdD.key)))) rfl ((.sl (by rw [take_nth hil,List.map_append];unfold keysL;rw [List.foldl_append];rfl)))
  obtain ⟨F,hS⟩:=hS.nm [21,20,4,5,22] [102,101,0] rfl rfl
  exact ⟨(i+1),F,⟨by omega,trivial⟩,hS,by omega⟩
 have hil:i=(d.old++d.new++e.old++e.new).length:=by simp at hc0;omega
 refine wp_exit (then_x (then_x (block_x (then_n (wp_seq ?_)))))
 refine region_z hS (qM rfl rfl (qN rfl rfl qZ)) hB [4] [102,101,0] rfl rfl ?_
 clear hS;intro a w F hS
 refine then_n (wp_ret ?_)
 refine ret_P hfr hS rfl (.tmp rfl .nil) (.one (.sl (by rw [hil,List.take_length];rfl)))
end Go.Proofs.YtcfgcpcakdknkaaGreat
namespace Go.Proofs.YtcfgcpcakdknkaaGreat
open Go Go.Gm
set_option linter.unusedVariables false
set_option linter.unusedSimpArgs false
set_option maxHeartbeats 4000000
set_option maxRecDepth 8000
def cellT (i:Nat):Value→Value
 | .tuple vs=>cellN i (vs.toList.headD undef)
 | _=>undef
abbrev jQT (o1 o2:Value) (fb:Bool) (v:Value):PV:=.tup [.agg [.is (cellT 0 v),.is (cellT 1 v),.is o1,.is o2],.bool fb]
abbrev jQR (o1 o2:Value) (fb:Bool) (v:Value):PV:=.tup [.agg [.is o1,.is o2,.is (cellT 2 v),.is (cellT 3 v)],.bool fb]
abbrev jHT (k1 k2:Value→HP) (v:Value):HP:=HP.star [.ob (.val (cellT 0 v)) k1,.ob (.val (cellT 1 v)) k2]
abbrev jHR (k1 k2:Value→HP) (v:Value):HP:=HP.star [.ob (.val (cellT 2 v)) k1,.ob (.val (cellT 3 v)) k2]
theorem cellT_eq {v1 v2 v3 v4 v:Value} {p:PV} {w:World} {y:Ys} (h:(PV.tup [.agg [.is v1,.is v2,.is v3,.is v4],p]).p v w y):cellT 0 v=v1∧cellT 1 v=v2∧cellT 2 v=v3∧cellT 3 v=v4:=by
 obtain ⟨vs,rfl,h⟩:=h
 match vs,h with
 | u :: us,h=>
   obtain ⟨cs,rfl,hc⟩:=h.1
   match cs,hc with
   | [c1,c2,c3,c4],hc=>
     have e1:c1=v1:=hc.1.2.1
     have e2:c2=v2:=hc.2.1.2.1
     have e3:c3=v3:=hc.2.2.1.2.1
     have e4:c4=v4:=hc.2.2.2.1.2.1
     exact ⟨by simp [cellT,cellN,e1],by simp [cellT,cellN,e2],by simp [cellT,cellN,e3],by simp [cellT,cellN,e4]⟩
theorem ret_JT {P:Program} {B:Base} {F0:Fp} (hG:BaseG B F0 1) {E:En} {a:Act} {w:World} {F:Fp} {fn:Func} {v1 v2 o1 o2:Value} {fb:Bool} {k1 k2:Value→HP} {ss:List SF} (hS:Sat B E a w F) (h0:Go.Gm.look E.r 0=some (frame B))
   (hr:ROk P E fn.results.toList ss) (hq:Tells ss (.tup [.agg [.is v1,.is v2,.is o1,.is o2],.bool fb])) (h1:Go.Gm.look E.r 1=some (RS.hp (HP.star [.ob (.val v1) k1,.ob (.val v2) k2]))) :
   bodyPost P fn (RG B F0 1 (PV.self (jQT o1 o2 fb)) (fun v=>[jHT k1 k2 v])) .ret a w:=by
 refine ret_G hG hS h0 hr (q:=PV.self _) (fun τ w y vs hv=>?_) fun v τ y hv i h hi=>?_
 · have hp:=hq τ w y vs hv
   obtain ⟨e1,e2,_,_⟩:=cellT_eq hp
   show (jQT o1 o2 fb (Go.Gm.valOf vs)).p (Go.Gm.valOf vs) w y
   unfold jQT
   rw [e1,e2];exact hp
 · obtain ⟨vs,rfl,hvs⟩:=hv
   obtain ⟨e1,e2,_,_⟩:=cellT_eq (hq _ _ _ _ hvs)
   match i,hi with
   | 0,hi=>
     simp at hi;subst hi
     refine ⟨_,h1,Nat.le_refl _,fun _ _ _ h=>?_⟩
     unfold jHT
     rw [e1,e2];exact h
theorem ret_JR {P:Program} {B:Base} {F0:Fp} (hG:BaseG B F0 1) {E:En} {a:Act} {w:World} {F:Fp} {fn:Func} {v1 v2 o1 o2:Value} {fb:Bool} {k1 k2:Value→HP} {ss:List SF} (hS:Sat B E a w F) (h0:Go.Gm.look E.r 0=some (frame B))
   (hr:ROk P E fn.results.toList ss) (hq:Tells ss (.tup [.agg [.is o1,.is o2,.is v1,.is v2],.bool fb])) (h1:Go.Gm.look E.r 1=some (RS.hp (HP.star [.ob (.val v1) k1,.ob (.val v2) k2]))) :
   bodyPost P fn (RG B F0 1 (PV.self (jQR o1 o2 fb)) (fun v=>[jHR k1 k2 v])) .ret a w:=by
 refine ret_G hG hS h0 hr (q:=PV.self _) (fun τ w y vs hv=>?_) fun v τ y hv i h hi=>?_
 · have hp:=hq τ w y vs hv
   obtain ⟨_,_,e1,e2⟩:=cellT_eq hp
   show (jQR o1 o2 fb (Go.Gm.valOf vs)).p (Go.Gm.valOf vs) w y
   unfold jQR
   rw [e1,e2];exact hp
 · obtain ⟨vs,rfl,hvs⟩:=hv
   obtain ⟨_,_,e1,e2⟩:=cellT_eq (hq _ _ _ _ hvs)
   match i,hi with
   | 0,hi=>
     simp at hi;subst hi
     refine ⟨_,h1,Nat.le_refl _,fun _ _ _ h=>?_⟩
     unfold jHR
     rw [e1,e2];exact h
theorem o_callFJ {P:Program} {ty:TypeId} {pos:String} {af:Array Edge} {g:Option (Nat×Bool)} {ps:List (Nat×SF)} {f:FuncId} {args:Array Operand} {tys:Array TypeId} {d':Nat} {avs:List PV} {h0:HP} {h':Value→HP} {q:Value→PV} {fn:Func} (n:Nat)
    (hc : FnG P f 1 avs [h0] (PV.self q) (fun v => [h' v])) (hf : P.funcs[f]? = some fn) (hb : fn.body.isSome = true) (hn : (fn.name == "runtime.NumGoroutine") = false)
    (ha:∀ (a:Act) w y,Hps ps (Act.tau a) w y → ∃ vs:List Value,args.map a.eval=vs.toArray∧PVt avs vs w y) :
    OpC P ⟨some d',.call { callee:=.value (.func f),args:=args,argTypes:=tys },ty,pos,af,g⟩ ⟨ps,[(n,RS.hp h0)],.fn d' q,[(n,RS.ob (.slot d') h')]⟩:=
  o_callG (is:=[n]) hc hf hb hn ha rfl (by simp) (fun τ w F hr i x hi=>by
      match i,hi with
      | 0,hi=>simp at hi;subst hi;exact ⟨n,rfl,hr (n,RS.hp h0) (by simp)⟩)
    (fun τ w y v h=>by
      show (q (upd τ (some d') v d')).p v w y
      have:upd τ (some d') v d' = v:=by simp [upd]
      rw [this];exact h) (fun x hx=>by
      simp only [List.mem_singleton] at hx
      subst hx
      exact ⟨0,rfl,fun v τ w f y ⟨k,hk,hp⟩=>by
        simp at hk;subst hk
        simpa [RS.holds,Anc.v,upd] using hp⟩) rfl (fun _=>rfl)
def joinT {α:Type} [DecidableEq α] (κ:α→Int) (was now old next:List α) (n:Int) (p:List α×List α):(List α×List α)×Bool:=match joinS κ was now old next n with
 | none=>(p,false)
 | some q=>(joinP p q,true)
theorem opt_eq3 {α:Type} [DecidableEq α] (z:α) (x y:Option α):((x.isSome == y.isSome) && decide (x.getD z=y.getD z))=decide (x=y):=by
 cases x <;> cases y <;> simp
theorem joinT_step {α:Type} [DecidableEq α] [Inhabited α] {κ:α→Int} {was now old next:List α} {ks:List Int} {i:Nat} {p:List α×List α} (hi:i<ks.length) (h:joinG κ was now old next (ks.take i)=some p):joinG κ was now old next (ks.take (i+1))=if (joinT κ was now old next (Go.Gm.nth ks i) p).2=true then some (joinT κ was now old next (Go.Gm.nth ks i) p).1 else none:=by
 rw [joinG_step hi h]
 unfold joinT
 cases joinS κ was now old next (Go.Gm.nth ks i) <;> rfl
theorem joinTxs_c (v1 v2 o1 o2:Value) (wl nl:List TxD) (d e:DeltaD) (id:Int) (hd:SmallD d) (he:SmallD e) (hwl:wl.length≤4000) (hnl:nl.length≤4000):FnG Tryz.prog 73 1 [.agg [.is v1,.is v2,.is o1,.is o2],.agg (rDelta d),.agg (rDelta e),.int .i64 id] [HP.star [.ob (.val v1) (rowH 34 3 rTx wl),.ob (.val v2) (rowH 34 3 rTx nl)]] (PV.self (jQT o1 o2 (joinT TxD.id d.was d.now e.was e.now id (wl,nl)).2)) (fun v=>[jHT (rowH 34 3 rTx (joinT TxD.id d.was d.now e.was e.now id (wl,nl)).1.1) (rowH 34 3 rTx (joinT TxD.id d.was d.now e.was e.now id (wl,nl)).1.2) v]):=by
 refine FnG.mk Tryz.func73 rfl Tryz.ntmps73 rfl (by kernel_rfl) ?_
 intro B F0 a w F hB hG hS
 obtain ⟨F,hS⟩:=hS.peel 1 61 rfl rfl
 obtain ⟨F,hS⟩:=hS.peel 1 62 rfl rfl
 obtain ⟨F,hS⟩:=hS.nm [3,2,1,0] [62,61,1,0] rfl rfl
 refine wp_seq ?_
 refine region_q hS (qf (oX 101 (.conv .t .agg)) r1 qz (qf (oX 102 (.conv .t .agg)) r1 qz (qf (oX 103 (.conv .t .agg)) r1 qz (qf (oH [.slice none 0 0,.slice none 0 0,.slice none 0 0,.slice none 0 0] 104) trivial qz (qf (oN .cb) trivial qz qZ))))) hB ?_
 clear hS;intro a w F hS
 replace hS:=hS.sub
 obtain ⟨F,hS⟩:=hS.nm [9,8,6,5,4,3] [104,103,102,101,62,61,1,0] rfl rfl
 try dsimp only [RS.sub,SF.sub,CF.sub,csub,Anc.sub,List.map,zCF,rHist,rTx,rOrd,rVer,rInt,rOp,rDelta] at hS
 generalize Act.tau a 4=v4 at hS
 generalize Act.tau a 5=v5 at hS
 generalize Act.tau a 6=v6 at hS
 generalize Act.tau a 8=v8 at hS
 refine then_n (wp_seq ?_)
 refine region_q hS (qf (oF 0 102 .is) r1 r1 (qf (oL false 1 102 .adr) r1 r1 (qM rfl rfl (qf (oP (tx14_c d.was id hd.1.1) Tryz.func99 (Args.two .t .t)) r2 qz (qM rfl rfl (qf (o_extract .t rfl) r1 qz (qf (o_extract .t rfl) r1 qz (qf (oH [.int .i64 0,.bool false,.slice none 0 0] 105) trivial qz (qf (oA 3 105 .same (.conv .t .agg)) r2 r1 (qN rfl rfl qZ)))))))))) hB ?_
 clear hS;intro a w F hS
 replace hS:=hS.sub
 obtain ⟨F,hS⟩:=hS.nm [11,10,9,8,6,5,4,3] [105,104,103,102,101,62,61,1,0] rfl rfl
 try dsimp only [RS.sub,SF.sub,CF.sub,csub,Anc.sub,List.map,stCells,xL,xM,Nat.reduceAdd,xD,xE,xT,xU,xC,xN,zCF,ldSF,rHist,rTx,rOrd,rVer,rInt,rOp,rDelta] at hS
 generalize Act.tau a 10=v10 at hS
 refine then_n (wp_seq ?_)
 refine region_q hS (qf (oF 1 102 .is) r1 r1 (qf (oL false 1 102 .adr) r1 r1 (qM rfl rfl (qf (oP (tx14_c d.now id hd.2.1) Tryz.func99 (Args.two .t .t)) r2 qz (qM rfl rfl (qf (o_extract .t rfl) r1 qz (qf (o_extract .t rfl) r1 qz (qf (oH [.int .i64 0,.bool false,.slice none 0 0] 106) trivial qz (qf (oA 3 106 .same (.conv .t .agg)) r2 r1 (qN rfl rfl qZ)))))))))) hB ?_
 clear hS;intro a w F hS
 replace hS:=hS.sub
 obtain ⟨F,hS⟩:=hS.nm [13,12,11,10,9,8,6,4,3] [106,105,104,103,102,101,62,61,1,0] rfl rfl
 try dsimp only [RS.sub,SF.sub,CF.sub,csub,Anc.sub,List.map,stCells,xL,xM,Nat.reduceAdd,xD,xE,xT,xU,xC,xN,zCF,ldSF,rHist,rTx,rOrd,rVer,rInt,rOp,rDelta] at hS
 generalize Act.tau a 12=v12 at hS
 refine then_n (wp_seq ?_)
 refine region_q hS (qf (oF 0 103 .is) r1 r1 (qf (oL false 1 103 .adr) r1 r1 (qM rfl rfl (qf (oP (tx14_c e.was id he.1.1) Tryz.func99 (Args.two .t .t)) r2 qz (qM rfl rfl (qf (o_extract .t rfl) r1 qz (qf (o_extract .t rfl) r1 qz (qf (oH [.int .i64 0,.bool false,.slice none 0 0] 107) trivial qz (qf (oA 3 107 .same (.conv .t .agg)) r2 r1 (qN rfl rfl qZ)))))))))) hB ?_
 clear hS;intro a w F hS
 replace hS:=hS.sub
 obtain ⟨F,hS⟩:=hS.nm [15,14,13,12,11,10,9,8,6,4,3] [107,106,105,104,103,102,101,62,61,1,0] rfl rfl
 try dsimp only [RS.sub,SF.sub,CF.sub,csub,Anc.sub,List.map,stCells,xL,xM,Nat.reduceAdd,xD,xE,xT,xU,xC,xN,zCF,ldSF,rHist,rTx,rOrd,rVer,rInt,rOp,rDelta] at hS
 generalize Act.tau a 14=v14 at hS
 refine then_n (wp_seq ?_)
 refine region_q hS (qf (oF 1 103 .is) r1 r1 (qf (oL false 1 103 .adr) r1 r1 (qM rfl rfl (qf (oP (tx14_c e.now id he.2.1) Tryz.func99 (Args.two .t .t)) r2 qz (qM rfl rfl (qf (o_extract .t rfl) r1 qz (qf (o_extract .t rfl) r1 qz (qf (oH [.int .i64 0,.bool false,.slice none 0 0] 108) trivial qz (qf (oA 3 108 .same (.conv .t .agg)) r2 r1 (qN rfl rfl qZ)))))))))) hB ?_
 clear hS;intro a w F hS
 replace hS:=hS.sub
 obtain ⟨F,hS⟩:=hS.nm [17,16,15,14,13,12,11,10,9,8,4] [108,107,106,105,104,103,102,101,62,61,1,0] rfl rfl
 try dsimp only [RS.sub,SF.sub,CF.sub,csub,Anc.sub,List.map,stCells,xL,xM,Nat.reduceAdd,xD,xE,xT,xU,xC,xN,zCF,ldSF,rHist,rTx,rOrd,rVer,rInt,rOp,rDelta] at hS
 generalize Act.tau a 16=v16 at hS
 refine then_n (wp_seq ?_)
 refine region_z hS (qM rfl rfl (qM rfl rfl (qm rfl rfl rfl rfl (qf (o_or2 .t .t) r2 qz (qM rfl rfl (qM rfl rfl (qm rfl rfl rfl rfl (qf (o_or2 .t .t) r2 qz (qN rfl rfl (qN rfl rfl qZ)))))))))) hB [19,18,17,16,15,14,13,12,11,10,9,8,4] [108,107,106,105,104,103,102,101,62,61,1,0] rfl rfl ?_
 clear hS;intro a w F hS
 refine then_n (wp_seq (wp_seq ?_))
 refine region_z hS (qM rfl rfl (qM rfl rfl (qm rfl rfl rfl rfl (qf (o_and2 .t .t) r2 qz (qM rfl rfl (qm rfl rfl rfl rfl (qm rfl rfl rfl rfl (qk rfl (fun h=>o_neqB Tryz.underlying4 (.w h) (.w h)) r3 qz (qk rfl (fun h=>oM (.w h)) r2 qz (Chain.cons (Cert.cond2 rfl rfl (fun h=>o_move .t (by rfl))) r2 qz (Chain.cons (Cert.cond2 rfl rfl (fun h=>o_move (.w h) (by rfl))) r2 qz (Chain.cons (Cert.cond2 rfl rfl (fun h=>o_load (ag:=true) (sz:=3) 106 .is (by kernel_rfl) (by kernel_rfl) (by kernel_rfl) (by rfl))) r2 r1 (Chain.cons (Cert.cond2 rfl rfl (fun h=>o_load (ag:=true) (sz:=3) 107 .is (by kernel_rfl) (by kernel_rfl) (by kernel_rfl) (by rfl))) r2 r1 (Chain.cons (Cert.cond2 rfl rfl (fun h=>o_callP (refTxSame_c ((seekK TxD.id d.now id).getD zeroT) ((seekK TxD.id e.was id).getD zeroT)) Tryz.func60 rfl (by kernel_rfl) (Args.two (.pagg (.w h)) (.pagg (.w h))))) r3 qz (Chain.cons (Cert.cond2 rfl rfl (fun h=>o_not (.w h))) r2 qz (Chain.cons (Cert.cond2 rfl rfl (fun h=>o_and2 (.w h) (.wc h))) r3 qz (qk rfl (fun h=>o_or2 (.w h) (.wc h)) r3 qz (qf (o_and2 .t .t) r2 qz qZ)))))))))))))))))) hB [73,19,18,17,16,15,14,13,12,11,10,9,8,4] [108,107,106,105,104,103,102,101,62,61,1,0] rfl rfl ?_
 clear hS;intro a w F hS
 try dsimp only [List.map,xD,xE,xT,xU,ldSF,rHist,rTx,rOrd,rVer,rInt,rOp,rDelta] at hS
 refine then_n ?_
 refine cond_b hS rfl (fun hc0=>?_) (fun hc0=>?_)
 ·skip
  have h9:(((((seekK TxD.id d.was id).isSome || (seekK TxD.id d.now id).isSome) && ((seekK TxD.id e.was id).isSome || (seekK TxD.id e.now id).isSome)) && (((seekK TxD.id d.now id).isSome != (seekK TxD.id e.was id).isSome) || ((seekK TxD.id d.now id).isSome && !decide ((seekK TxD.id d.now id).getD zeroT=(seekK TxD.id e.was id).getD zeroT)))))=true:=hc0
  rw [opt_ne] at h9
  have hjn:joinS TxD.id d.was d.now e.was e.now id=none:=by unfold joinS;rw [if_pos (by simpa [and_assoc] using h9)]
  have hg:joinT TxD.id d.was d.now e.was e.now id (wl,nl)=((wl,nl),false):=by unfold joinT;rw [hjn]
  refine wp_seq ?_
  refine region_z hS (qf (oL true 4 101 .is) r1 r1 (qf (oA 4 104 .is .t) r2 r1 (qf (oN .cb) trivial qz qZ))) hB [19,18,17,16,15,14,13,12,11,10,9,8,4] [108,107,106,105,104,103,102,101,62,61,1,0] rfl rfl ?_
  clear hS;intro a w F hS
  refine then_n (wp_ret (then_r ?_))
  have hS:=hS.turn 61 rfl (r':=.ob (.val v1) (rowH 34 3 rTx (joinT TxD.id d.was d.now e.was e.now id (wl,nl)).1.1)) (fun _ _ _ _ h=>by rw [hg];exact h)
  have hS:=hS.turn 62 rfl (r':=.ob (.val v2) (rowH 34 3 rTx (joinT TxD.id d.was d.now e.was e.now id (wl,nl)).1.2)) (fun _ _ _ _ h=>by rw [hg];exact h)
  obtain ⟨F,hS⟩:=hS.push 1 62 rfl rfl rfl rfl
  obtain ⟨F,hS⟩:=hS.push 1 61 rfl rfl rfl rfl
  refine ret_JT hG hS rfl (.cell (n:=104) (ag:=true) (sz:=4) rfl .is rfl (by kernel_rfl) (by kernel_rfl) (by kernel_rfl) (.tmp rfl .nil)) (.two (.aggU rfl rfl) (.bool (by rw [hg]))) rfl
 have h9:(((((seekK TxD.id d.was id).isSome || (seekK TxD.id d.now id).isSome) && ((seekK TxD.id e.was id).isSome || (seekK TxD.id e.now id).isSome)) && (((seekK TxD.id d.now id).isSome != (seekK TxD.id e.was id).isSome) || ((seekK TxD.id d.now id).isSome && !decide ((seekK TxD.id d.now id).getD zeroT=(seekK TxD.id e.was id).getD zeroT)))))=false:=hc0
 rw [opt_ne] at h9
 have hjn:joinS TxD.id d.was d.now e.was e.now id=some ((if ((seekK TxD.id d.was id).isSome || (seekK TxD.id d.now id).isSome)=true then (seekK TxD.id d.was id) else (seekK TxD.id e.was id)),(if ((seekK TxD.id e.was id).isSome || (seekK TxD.id e.now id).isSome)=true then (seekK TxD.id e.now id) else (seekK TxD.id d.now id))):=by unfold joinS;rw [if_neg (by rintro ⟨e1,e2,e3⟩;rw [e1,e2,decide_eq_true e3] at h9;cases h9)]
 refine wp_skip (then_n (wp_seq (wp_seq ?_)))
 refine region_z hS (qM rfl rfl (qf (o_not .t) r1 qz qZ)) hB [76,19,17,16,15,14,13,12,11,10,9,8,4] [108,107,106,105,104,103,102,101,62,61,1,0] rfl rfl ?_
 clear hS;intro a w F hS
 refine then_n ?_
 refine join_keep (σ:=Option TxD) [4,8,9,10,12,13,16,17,19] [0,1,61,62,101,102,103,104,106,107,108] (fun s=>[(11,.pv (.bool (s).isSome))]) (fun s=>[(105,.pt (.val v10) 34 [.pv (.int .i64 ((s).getD zeroT).id),.pv (.bool ((s).getD zeroT).done),.pv (.sl rOp ((s).getD zeroT).ops)])]) (fun s=>s=(if ((seekK TxD.id d.was id).isSome || (seekK TxD.id d.now id).isSome)=true then (seekK TxD.id d.was id) else (seekK TxD.id e.was id))) hS ?_ ?_
 ·skip
  refine cond_b hS rfl (fun hc1=>?_) (fun hc1=>?_)
  ·skip
   have h8:((seekK TxD.id d.was id).isSome || (seekK TxD.id d.now id).isSome)=false:=not_tr hc1
   have hjP:(seekK TxD.id e.was id)=(if ((seekK TxD.id d.was id).isSome || (seekK TxD.id d.now id).isSome)=true then (seekK TxD.id d.was id) else (seekK TxD.id e.was id)):=by rw [if_neg (by rw [h8];exact Bool.false_ne_true)]
   refine region_z hS (qf (oL true 3 107 .is) r1 r1 (qM rfl rfl (qf (oA 3 105 .is .t) r2 r1 (qN rfl rfl qZ)))) hB [19,17,16,13,12,11,10,9,8,4] [108,107,106,105,104,103,102,101,62,61,1,0] rfl rfl ?_
   clear hS;intro a w F hS
   refine then_n ?_
   obtain ⟨F,hS⟩:=hS.nm [19,17,16,13,12,10,9,8,4,11] [108,107,106,104,103,102,101,62,61,1,0,105] rfl rfl
   exact ⟨_,F,hjP,hS⟩
  have h8:((seekK TxD.id d.was id).isSome || (seekK TxD.id d.now id).isSome)=true:=not_fl hc1
  have hjP:(seekK TxD.id d.was id)=(if ((seekK TxD.id d.was id).isSome || (seekK TxD.id d.now id).isSome)=true then (seekK TxD.id d.was id) else (seekK TxD.id e.was id)):=by rw [if_pos h8]
  refine wp_skip (then_n ?_)
  obtain ⟨F,hS⟩:=hS.nm [19,17,16,13,12,10,9,8,4,11] [108,107,106,104,103,102,101,62,61,1,0,105] rfl rfl
  exact ⟨_,F,hjP,hS⟩
 clear hS;intro P a w F hC hS
 try dsimp only at hC
 obtain ⟨F,hS⟩:=hS.nm [19,17,16,13,12,11,10,9,8,4] [108,107,106,105,104,103,102,101,62,61,1,0] rfl rfl
 try dsimp only at hS
 have hP:=hC
 refine wp_seq (wp_seq ?_)
 refine region_z hS (qM rfl rfl (qf (o_not .t) r1 qz qZ)) hB [80,17,16,13,12,11,10,9,8,4] [108,107,106,105,104,103,102,101,62,61,1,0] rfl rfl ?_
 clear hS;intro a w F hS
 refine then_n ?_
 refine join_keep (σ:=Option TxD) [4,8,9,10,11,16] [0,1,61,62,101,102,103,104,105,106,107] (fun s=>[(17,.pv (.bool (s).isSome))]) (fun s=>[(108,.pt (.val v16) 34 [.pv (.int .i64 ((s).getD zeroT).id),.pv (.bool ((s).getD zeroT).done),.pv (.sl rOp ((s).getD zeroT).ops)])]) (fun s=>s=(if ((seekK TxD.id e.was id).isSome || (seekK TxD.id e.now id).isSome)=true then (seekK TxD.id e.now id) else (seekK TxD.id d.now id))) hS ?_ ?_
 ·skip
  refine cond_b hS rfl (fun hc2=>?_) (fun hc2=>?_)
  ·skip
   have h7:((seekK TxD.id e.was id).isSome || (seekK TxD.id e.now id).isSome)=false:=not_tr hc2
   have hjZ:(seekK TxD.id d.now id)=(if ((seekK TxD.id e.was id).isSome || (seekK TxD.id e.now id).isSome)=true then (seekK TxD.id e.now id) else (seekK TxD.id d.now id)):=by rw [if_neg (by rw [h7];exact Bool.false_ne_true)]
   refine region_z hS (qf (oL true 3 106 .is) r1 r1 (qM rfl rfl (qf (oA 3 108 .is .t) r2 r1 (qN rfl rfl qZ)))) hB [17,16,11,10,9,8,4] [108,107,106,105,104,103,102,101,62,61,1,0] rfl rfl ?_
   clear hS;intro a w F hS
   refine then_n ?_
   obtain ⟨F,hS⟩:=hS.nm [16,11,10,9,8,4,17] [107,106,105,104,103,102,101,62,61,1,0,108] rfl rfl
   exact ⟨_,F,hjZ,hS⟩
  have h7:((seekK TxD.id e.was id).isSome || (seekK TxD.id e.now id).isSome)=true:=not_fl hc2
  have hjZ:(seekK TxD.id e.now id)=(if ((seekK TxD.id e.was id).isSome || (seekK TxD.id e.now id).isSome)=true then (seekK TxD.id e.now id) else (seekK TxD.id d.now id)):=by rw [if_pos h7]
  refine wp_skip (then_n ?_)
  obtain ⟨F,hS⟩:=hS.nm [16,11,10,9,8,4,17] [107,106,105,104,103,102,101,62,61,1,0,108] rfl rfl
  exact ⟨_,F,hjZ,hS⟩
 clear hS;intro Z a w F hC hS
 try dsimp only at hC
 obtain ⟨F,hS⟩:=hS.nm [17,16,11,10,9,8,4] [108,107,106,105,104,103,102,101,62,61,1,0] rfl rfl
 try dsimp only at hS
 have hZ:=hC
 refine wp_seq (wp_seq ?_)
 refine region_z hS (qM rfl rfl (qM rfl rfl (qf (o_eqlB Tryz.underlying4 .t .t) r2 qz (qM rfl rfl (qk rfl (fun h=>oL true 3 105 .is) r2 r1 (qk rfl (fun h=>oL true 3 108 .is) r2 r1 (qk rfl (fun h=>oP (refTxSame_c (P.getD zeroT) (Z.getD zeroT)) Tryz.func60 (Args.two (.pagg (.w h)) (.pagg (.w h)))) r3 qz (qf (o_and2 .t .t) r2 qz qZ)))))))) hB [90,17,16,11,10,9,8,4] [108,107,106,105,104,103,102,101,62,61,1,0] rfl rfl ?_
 clear hS;intro a w F hS
 refine then_n ?_
 refine cond_b hS rfl (fun hc3=>?_) (fun hc3=>?_)
 ·skip
  rw [← hP,← hZ] at hjn
  have h9:((P.isSome == Z.isSome) && decide (P.getD zeroT=Z.getD zeroT))=true:=hc3
  rw [opt_eq3,decide_eq_true_eq] at h9
  have hg:joinT TxD.id d.was d.now e.was e.now id (wl,nl)=((wl,nl),true):=by unfold joinT joinP;rw [hjn];dsimp only;rw [if_pos h9]
  refine wp_seq ?_
  refine region_z hS (qf (oL true 4 101 .is) r1 r1 (qf (oA 4 104 .is .t) r2 r1 (qf (oN .cb) trivial qz qZ))) hB [17,16,11,10,9,8,4] [108,107,106,105,104,103,102,101,62,61,1,0] rfl rfl ?_
  clear hS;intro a w F hS
  refine then_n (wp_ret (then_r ?_))
  have hS:=hS.turn 61 rfl (r':=.ob (.val v1) (rowH 34 3 rTx (joinT TxD.id d.was d.now e.was e.now id (wl,nl)).1.1)) (fun _ _ _ _ h=>by rw [hg];exact h)
  have hS:=hS.turn 62 rfl (r':=.ob (.val v2) (rowH 34 3 rTx (joinT TxD.id d.was d.now e.was e.now id (wl,nl)).1.2)) (fun _ _ _ _ h=>by rw [hg];exact h)
  obtain ⟨F,hS⟩:=hS.push 1 62 rfl rfl rfl rfl
  obtain ⟨F,hS⟩:=hS.push 1 61 rfl rfl rfl rfl
  refine ret_JT hG hS rfl (.cell (n:=104) (ag:=true) (sz:=4) rfl .is rfl (by kernel_rfl) (by kernel_rfl) (by kernel_rfl) (.tmp rfl .nil)) (.two (.aggU rfl rfl) (.bool (by rw [hg]))) rfl
 rw [← hP,← hZ] at hjn
 have h9:((P.isSome == Z.isSome) && decide (P.getD zeroT=Z.getD zeroT))=false:=hc3
 rw [opt_eq3,decide_eq_false_iff_not] at h9
 refine wp_skip (then_n (wp_seq (wp_seq ?_)))
 refine region_z hS (qM rfl rfl qZ) hB [92,17,16,10,9,8,4] [108,107,106,105,104,103,102,101,62,61,1,0] rfl rfl ?_
 clear hS;intro a w F hS
 refine then_n ?_
 refine cond_b hS rfl (fun hc4=>?_) (fun hc4=>?_)
 ·skip
  obtain ⟨la,lae⟩:∃ z,z=wl ++ [P.getD zeroT]:=⟨_,rfl⟩
  have hla2:la=wl++P.toList:=by rw [lae];have h8:=hc4;clear hP hjn;cases P with | none=>simp at h8 | some v=>rfl
  refine region_q hS (qf (oF 0 101 .is) r1 r1 (qf (oL false 1 101 .adr) r1 r1 (qf (oL true 3 105 .is) r1 r1 (qf (o_buildSliceE (sz:=3) (zs:=[.int .i64 0,.bool false,.slice none 0 0]) (r:=[(0,.tmp 95)]) (l:=[_,_,_]) Tryz.underlying27 (by kernel_rfl) (by kernel_rfl) (by kernel_rfl) (by kernel_rfl) rfl rfl (.agg rfl .t (by kernel_rfl) (by kernel_rfl) .nil) rfl) r1 qz (qf (o_append (sz:=3) (bs:=40) 61 (.mk' Tryz.underlying27 (by kernel_rfl) (by kernel_rfl)) (by intro x;rfl) .is (.arr (l':=[(P.getD zeroT)]) .t) (by simp only [List.length_cons,List.length_nil];omega) (by decide)) ⟨rfl,rfl,trivial⟩ ⟨rfl,trivial⟩ (qf (oF 0 101 .is) r1 r1 (qf (o_storeS 101 .adr (by kernel_rfl) (by kernel_rfl)) r2 r1 qZ))))))) hB ?_
  clear hS;intro a w F hS
  replace hS:=hS.sub
  obtain ⟨F,hS⟩:=hS.nm [17,16,9,8,4] [108,107,106,105,104,103,102,101,62,61,1,0] rfl rfl
  try dsimp only [RS.sub,SF.sub,CF.sub,csub,Anc.sub,List.map,stCells,xL,xM,Nat.reduceAdd,xD,xE,xT,xU,xC,xN,zCF,ldSF,rHist,rTx,rOrd,rVer,rInt,rOp,rDelta] at hS
  generalize Act.tau a 97=v97 at hS
  rw [← lae] at hS
  refine then_n (wp_seq (wp_seq ?_))
  refine region_z hS (qM rfl rfl qZ) hB [99,16,9,8,4] [108,107,106,105,104,103,102,101,62,61,1,0] rfl rfl ?_
  clear hS;intro a w F hS
  refine then_n ?_
  refine cond_b hS rfl (fun hc5=>?_) (fun hc5=>?_)
  ·skip
   obtain ⟨lb,lbe⟩:∃ z,z=nl ++ [Z.getD zeroT]:=⟨_,rfl⟩
   have hlb2:lb=nl++Z.toList:=by rw [lbe];have h8:=hc5;clear hZ hjn;cases Z with | none=>simp at h8 | some v=>rfl
   have hg:joinT TxD.id d.was d.now e.was e.now id (wl,nl)=((la,lb),true):=by unfold joinT joinP;rw [hjn];dsimp only;rw [if_neg h9,hla2,hlb2]
   refine region_q hS (qf (oF 1 101 .is) r1 r1 (qf (oL false 1 101 .adr) r1 r1 (qf (oL true 3 108 .is) r1 r1 (qf (o_buildSliceE (sz:=3) (zs:=[.int .i64 0,.bool false,.slice none 0 0]) (r:=[(0,.tmp 102)]) (l:=[_,_,_]) Tryz.underlying27 (by kernel_rfl) (by kernel_rfl) (by kernel_rfl) (by kernel_rfl) rfl rfl (.agg rfl .t (by kernel_rfl) (by kernel_rfl) .nil) rfl) r1 qz (qf (o_append (sz:=3) (bs:=40) 62 (.mk' Tryz.underlying27 (by kernel_rfl) (by kernel_rfl)) (by intro x;rfl) .is (.arr (l':=[(Z.getD zeroT)]) .t) (by simp only [List.length_cons,List.length_nil];omega) (by decide)) ⟨rfl,rfl,trivial⟩ ⟨rfl,trivial⟩ (qf (oF 1 101 .is) r1 r1 (qf (o_storeS 101 .adr (by kernel_rfl) (by kernel_rfl)) r2 r1 qZ))))))) hB ?_
   clear hS;intro a w F hS
   replace hS:=hS.sub
   obtain ⟨F,hS⟩:=hS.nm [9,8,4] [108,107,106,105,104,103,102,101,62,61,1,0] rfl rfl
   try dsimp only [RS.sub,SF.sub,CF.sub,csub,Anc.sub,List.map,stCells,xL,xM,Nat.reduceAdd,xD,xE,xT,xU,xC,xN,zCF,ldSF,rHist,rTx,rOrd,rVer,rInt,rOp,rDelta] at hS
   generalize Act.tau a 104=v104 at hS
   rw [← lbe] at hS
   refine then_n (wp_seq ?_)
   refine region_z hS (qf (oL true 4 101 .is) r1 r1 (qf (oA 4 104 .is .t) r2 r1 (qf (oN .cb) trivial qz qZ))) hB [9,8] [108,107,106,105,104,103,102,101,62,61,1,0] rfl rfl ?_
   clear hS;intro a w F hS
   refine then_n (wp_ret ?_)
   have hS:=hS.turn 61 rfl (r':=.ob (.val v97) (rowH 34 3 rTx (joinT TxD.id d.was d.now e.was e.now id (wl,nl)).1.1)) (fun _ _ _ _ h=>by rw [hg];exact h)
   have hS:=hS.turn 62 rfl (r':=.ob (.val v104) (rowH 34 3 rTx (joinT TxD.id d.was d.now e.was e.now id (wl,nl)).1.2)) (fun _ _ _ _ h=>by rw [hg];exact h)
   obtain ⟨F,hS⟩:=hS.push 1 62 rfl rfl rfl rfl
   obtain ⟨F,hS⟩:=hS.push 1 61 rfl rfl rfl rfl
   refine ret_JT hG hS rfl (.cell (n:=104) (ag:=true) (sz:=4) rfl .is rfl (by kernel_rfl) (by kernel_rfl) (by kernel_rfl) (.tmp rfl .nil)) (.two (.aggU rfl rfl) (.bool (by rw [hg]))) rfl
  obtain ⟨lb,lbe⟩:∃ z,z=nl:=⟨_,rfl⟩
  rw [← lbe] at hS
  have hlb2:lb=nl++Z.toList:=by rw [lbe];have h8:=hc5;clear hZ hjn;cases Z with | some v=>simp at h8 | none=>simp
  have hg:joinT TxD.id d.was d.now e.was e.now id (wl,nl)=((la,lb),true):=by unfold joinT joinP;rw [hjn];dsimp only;rw [if_neg h9,hla2,hlb2]
  refine wp_skip (then_n (wp_seq ?_))
  refine region_z hS (qf (oL true 4 101 .is) r1 r1 (qf (oA 4 104 .is .t) r2 r1 (qf (oN .cb) trivial qz qZ))) hB [9,8] [108,107,106,105,104,103,102,101,62,61,1,0] rfl rfl ?_
  clear hS;intro a w F hS
  refine then_n (wp_ret ?_)
  have hS:=hS.turn 61 rfl (r':=.ob (.val v97) (rowH 34 3 rTx (joinT TxD.id d.was d.now e.was e.now id (wl,nl)).1.1)) (fun _ _ _ _ h=>by rw [hg];exact h)
  have hS:=hS.turn 62 rfl (r':=.ob (.val v2) (rowH 34 3 rTx (joinT TxD.id d.was d.now e.was e.now id (wl,nl)).1.2)) (fun _ _ _ _ h=>by rw [hg];exact h)
  obtain ⟨F,hS⟩:=hS.push 1 62 rfl rfl rfl rfl
  obtain ⟨F,hS⟩:=hS.push 1 61 rfl rfl rfl rfl
  refine ret_JT hG hS rfl (.cell (n:=104) (ag:=true) (sz:=4) rfl .is rfl (by kernel_rfl) (by kernel_rfl) (by kernel_rfl) (.tmp rfl .nil)) (.two (.aggU rfl rfl) (.bool (by rw [hg]))) rfl
 obtain ⟨la,lae⟩:∃ z,z=wl:=⟨_,rfl⟩
 rw [← lae] at hS
 have hla2:la=wl++P.toList:=by rw [lae];have h8:=hc4;clear hP hjn;cases P with | some v=>simp at h8 | none=>simp
 refine wp_skip (then_n (wp_seq (wp_seq ?_)))
 refine region_z hS (qM rfl rfl qZ) hB [99,16,9,8,4] [108,107,106,105,104,103,102,101,62,61,1,0] rfl rfl ?_
 clear hS;intro a w F hS
 refine then_n ?_
 refine cond_b hS rfl (fun hc6=>?_) (fun hc6=>?_)
 ·skip
  obtain ⟨lb,lbe⟩:∃ z,z=nl ++ [Z.getD zeroT]:=⟨_,rfl⟩
  have hlb2:lb=nl++Z.toList:=by rw [lbe];have h8:=hc6;clear hZ hjn;cases Z with | none=>simp at h8 | some v=>rfl
  have hg:joinT TxD.id d.was d.now e.was e.now id (wl,nl)=((la,lb),true):=by unfold joinT joinP;rw [hjn];dsimp only;rw [if_neg h9,hla2,hlb2]
  refine region_q hS (qf (oF 1 101 .is) r1 r1 (qf (oL false 1 101 .adr) r1 r1 (qf (oL true 3 108 .is) r1 r1 (qf (o_buildSliceE (sz:=3) (zs:=[.int .i64 0,.bool false,.slice none 0 0]) (r:=[(0,.tmp 102)]) (l:=[_,_,_]) Tryz.underlying27 (by kernel_rfl) (by kernel_rfl) (by kernel_rfl) (by kernel_rfl) rfl rfl (.agg rfl .t (by kernel_rfl) (by kernel_rfl) .nil) rfl) r1 qz (qf (o_append (sz:=3) (bs:=40) 62 (.mk' Tryz.underlying27 (by kernel_rfl) (by kernel_rfl)) (by intro x;rfl) .is (.arr (l':=[(Z.getD zeroT)]) .t) (by simp only [List.length_cons,List.length_nil];omega) (by decide)) ⟨rfl,rfl,trivial⟩ ⟨rfl,trivial⟩ (qf (oF 1 101 .is) r1 r1 (qf (o_storeS 101 .adr (by kernel_rfl) (by kernel_rfl)) r2 r1 qZ))))))) hB ?_
  clear hS;intro a w F hS
  replace hS:=hS.sub
  obtain ⟨F,hS⟩:=hS.nm [9,8,4] [108,107,106,105,104,103,102,101,62,61,1,0] rfl rfl
  try dsimp only [RS.sub,SF.sub,CF.sub,csub,Anc.sub,List.map,stCells,xL,xM,Nat.reduceAdd,xD,xE,xT,xU,xC,xN,zCF,ldSF,rHist,rTx,rOrd,rVer,rInt,rOp,rDelta] at hS
  generalize Act.tau a 104=v104 at hS
  rw [← lbe] at hS
  refine then_n (wp_seq ?_)
  refine region_z hS (qf (oL true 4 101 .is) r1 r1 (qf (oA 4 104 .is .t) r2 r1 (qf (oN .cb) trivial qz qZ))) hB [9,8] [108,107,106,105,104,103,102,101,62,61,1,0] rfl rfl ?_
  clear hS;intro a w F hS
  refine then_n (wp_ret ?_)
  have hS:=hS.turn 61 rfl (r':=.ob (.val v1) (rowH 34 3 rTx (joinT TxD.id d.was d.now e.was e.now id (wl,nl)).1.1)) (fun _ _ _ _ h=>by rw [hg];exact h)
  have hS:=hS.turn 62 rfl (r':=.ob (.val v104) (rowH 34 3 rTx (joinT TxD.id d.was d.now e.was e.now id (wl,nl)).1.2)) (fun _ _ _ _ h=>by rw [hg];exact h)
  obtain ⟨F,hS⟩:=hS.push 1 62 rfl rfl rfl rfl
  obtain ⟨F,hS⟩:=hS.push 1 61 rfl rfl rfl rfl
  refine ret_JT hG hS rfl (.cell (n:=104) (ag:=true) (sz:=4) rfl .is rfl (by kernel_rfl) (by kernel_rfl) (by kernel_rfl) (.tmp rfl .nil)) (.two (.aggU rfl rfl) (.bool (by rw [hg]))) rfl
 obtain ⟨lb,lbe⟩:∃ z,z=nl:=⟨_,rfl⟩
 rw [← lbe] at hS
 have hlb2:lb=nl++Z.toList:=by rw [lbe];have h8:=hc6;clear hZ hjn;cases Z with | some v=>simp at h8 | none=>simp
 have hg:joinT TxD.id d.was d.now e.was e.now id (wl,nl)=((la,lb),true):=by unfold joinT joinP;rw [hjn];dsimp only;rw [if_neg h9,hla2,hlb2]
 refine wp_skip (then_n (wp_seq ?_))
 refine region_z hS (qf (oL true 4 101 .is) r1 r1 (qf (oA 4 104 .is .t) r2 r1 (qf (oN .cb) trivial qz qZ))) hB [9,8] [108,107,106,105,104,103,102,101,62,61,1,0] rfl rfl ?_
 clear hS;intro a w F hS
 refine then_n (wp_ret ?_)
 have hS:=hS.turn 61 rfl (r':=.ob (.val v1) (rowH 34 3 rTx (joinT TxD.id d.was d.now e.was e.now id (wl,nl)).1.1)) (fun _ _ _ _ h=>by rw [hg];exact h)
 have hS:=hS.turn 62 rfl (r':=.ob (.val v2) (rowH 34 3 rTx (joinT TxD.id d.was d.now e.was e.now id (wl,nl)).1.2)) (fun _ _ _ _ h=>by rw [hg];exact h)
 obtain ⟨F,hS⟩:=hS.push 1 62 rfl rfl rfl rfl
 obtain ⟨F,hS⟩:=hS.push 1 61 rfl rfl rfl rfl
 refine ret_JT hG hS rfl (.cell (n:=104) (ag:=true) (sz:=4) rfl .is rfl (by kernel_rfl) (by kernel_rfl) (by kernel_rfl) (.tmp rfl .nil)) (.two (.aggU rfl rfl) (.bool (by rw [hg]))) rfl
theorem joinOrders_c (v1 v2 o1 o2:Value) (wl nl:List OrdD) (d e:DeltaD) (id:Int) (hd:SmallD d) (he:SmallD e) (hwl:wl.length≤4000) (hnl:nl.length≤4000):FnG Tryz.prog 75 1 [.agg [.is o1,.is o2,.is v1,.is v2],.agg (rDelta d),.agg (rDelta e),.int .i64 id] [HP.star [.ob (.val v1) (rowH 37 2 rOrd wl),.ob (.val v2) (rowH 37 2 rOrd nl)]] (PV.self (jQR o1 o2 (joinT OrdD.key d.old d.new e.old e.new id (wl,nl)).2)) (fun v=>[jHR (rowH 37 2 rOrd (joinT OrdD.key d.old d.new e.old e.new id (wl,nl)).1.1) (rowH 37 2 rOrd (joinT OrdD.key d.old d.new e.old e.new id (wl,nl)).1.2) v]):=by
 refine FnG.mk Tryz.func75 rfl Tryz.ntmps75 rfl (by kernel_rfl) ?_
 intro B F0 a w F hB hG hS
 obtain ⟨F,hS⟩:=hS.peel 1 61 rfl rfl
 obtain ⟨F,hS⟩:=hS.peel 1 62 rfl rfl
 obtain ⟨F,hS⟩:=hS.nm [3,2,1,0] [62,61,1,0] rfl rfl
 refine wp_seq ?_
 refine region_q hS (qf (oX 101 (.conv .t .agg)) r1 qz (qf (oX 102 (.conv .t .agg)) r1 qz (qf (oX 103 (.conv .t .agg)) r1 qz (qf (oH [.slice none 0 0,.slice none 0 0,.slice none 0 0,.slice none 0 0] 104) trivial qz (qf (oN .cb) trivial qz qZ))))) hB ?_
 clear hS;intro a w F hS
 replace hS:=hS.sub
 obtain ⟨F,hS⟩:=hS.nm [9,8,6,5,4,3] [104,103,102,101,62,61,1,0] rfl rfl
 try dsimp only [RS.sub,SF.sub,CF.sub,csub,Anc.sub,List.map,zCF,rHist,rTx,rOrd,rVer,rInt,rOp,rDelta] at hS
 generalize Act.tau a 4=v4 at hS
 generalize Act.tau a 5=v5 at hS
 generalize Act.tau a 6=v6 at hS
 generalize Act.tau a 8=v8 at hS
 refine then_n (wp_seq ?_)
 refine region_q hS (qf (oF 2 102 .is) r1 r1 (qf (oL false 1 102 .adr) r1 r1 (qM rfl rfl (qf (oP (ord14_c d.old id) Tryz.func100 (Args.two .t .t)) r2 qz (qM rfl rfl (qf (o_extract .t rfl) r1 qz (qf (o_extract .t rfl) r1 qz (qf (oH [.int .i64 0,.slice none 0 0] 105) trivial qz (qf (oA 2 105 .same (.conv .t .agg)) r2 r1 (qN rfl rfl qZ)))))))))) hB ?_
 clear hS;intro a w F hS
 replace hS:=hS.sub
 obtain ⟨F,hS⟩:=hS.nm [11,10,9,8,6,5,4,3] [105,104,103,102,101,62,61,1,0] rfl rfl
 try dsimp only [RS.sub,SF.sub,CF.sub,csub,Anc.sub,List.map,stCells,xL,xM,Nat.reduceAdd,xD,xE,xT,xU,xC,xN,zCF,ldSF,rHist,rTx,rOrd,rVer,rInt,rOp,rDelta] at hS
 generalize Act.tau a 10=v10 at hS
 refine then_n (wp_seq ?_)
 refine region_q hS (qf (oF 3 102 .is) r1 r1 (qf (oL false 1 102 .adr) r1 r1 (qM rfl rfl (qf (oP (ord14_c d.new id) Tryz.func100 (Args.two .t .t)) r2 qz (qM rfl rfl (qf (o_extract .t rfl) r1 qz (qf (o_extract .t rfl) r1 qz (qf (oH [.int .i64 0,.slice none 0 0] 106) trivial qz (qf (oA 2 106 .same (.conv .t .agg)) r2 r1 (qN rfl rfl qZ)))))))))) hB ?_
 clear hS;intro a w F hS
 replace hS:=hS.sub
 obtain ⟨F,hS⟩:=hS.nm [13,12,11,10,9,8,6,4,3] [106,105,104,103,102,101,62,61,1,0] rfl rfl
 try dsimp only [RS.sub,SF.sub,CF.sub,csub,Anc.sub,List.map,stCells,xL,xM,Nat.reduceAdd,xD,xE,xT,xU,xC,xN,zCF,ldSF,rHist,rTx,rOrd,rVer,rInt,rOp,rDelta] at hS
 generalize Act.tau a 12=v12 at hS
 refine then_n (wp_seq ?_)
 refine region_q hS (qf (oF 2 103 .is) r1 r1 (qf (oL false 1 103 .adr) r1 r1 (qM rfl rfl (qf (oP (ord14_c e.old id) Tryz.func100 (Args.two .t .t)) r2 qz (qM rfl rfl (qf (o_extract .t rfl) r1 qz (qf (o_extract .t rfl) r1 qz (qf (oH [.int .i64 0,.slice none 0 0] 107) trivial qz (qf (oA 2 107 .same (.conv .t .agg)) r2 r1 (qN rfl rfl qZ)))))))))) hB ?_
 clear hS;intro a w F hS
 replace hS:=hS.sub
 obtain ⟨F,hS⟩:=hS.nm [15,14,13,12,11,10,9,8,6,4,3] [107,106,105,104,103,102,101,62,61,1,0] rfl rfl
 try dsimp only [RS.sub,SF.sub,CF.sub,csub,Anc.sub,List.map,stCells,xL,xM,Nat.reduceAdd,xD,xE,xT,xU,xC,xN,zCF,ldSF,rHist,rTx,rOrd,rVer,rInt,rOp,rDelta] at hS
 generalize Act.tau a 14=v14 at hS
 refine then_n (wp_seq ?_)
 refine region_q hS (qf (oF 3 103 .is) r1 r1 (qf (oL false 1 103 .adr) r1 r1 (qM rfl rfl (qf (oP (ord14_c e.new id) Tryz.func100 (Args.two .t .t)) r2 qz (qM rfl rfl (qf (o_extract .t rfl) r1 qz (qf (o_extract .t rfl) r1 qz (qf (oH [.int .i64 0,.slice none 0 0] 108) trivial qz (qf (oA 2 108 .same (.conv .t .agg)) r2 r1 (qN rfl rfl qZ)))))))))) hB ?_
 clear hS;intro a w F hS
 replace hS:=hS.sub
 obtain ⟨F,hS⟩:=hS.nm [17,16,15,14,13,12,11,10,9,8,4] [108,107,106,105,104,103,102,101,62,61,1,0] rfl rfl
 try dsimp only [RS.sub,SF.sub,CF.sub,csub,Anc.sub,List.map,stCells,xL,xM,Nat.reduceAdd,xD,xE,xT,xU,xC,xN,zCF,ldSF,rHist,rTx,rOrd,rVer,rInt,rOp,rDelta] at hS
 generalize Act.tau a 16=v16 at hS
 refine then_n (wp_seq ?_)
 refine region_z hS (qM rfl rfl (qM rfl rfl (qm rfl rfl rfl rfl (qf (o_or2 .t .t) r2 qz (qM rfl rfl (qM rfl rfl (qm rfl rfl rfl rfl (qf (o_or2 .t .t) r2 qz (qN rfl rfl (qN rfl rfl qZ)))))))))) hB [19,18,17,16,15,14,13,12,11,10,9,8,4] [108,107,106,105,104,103,102,101,62,61,1,0] rfl rfl ?_
 clear hS;intro a w F hS
 refine then_n (wp_seq (wp_seq ?_))
 refine region_z hS (qM rfl rfl (qM rfl rfl (qm rfl rfl rfl rfl (qf (o_and2 .t .t) r2 qz (qM rfl rfl (qm rfl rfl rfl rfl (qm rfl rfl rfl rfl (qk rfl (fun h=>o_neqB Tryz.underlying4 (.w h) (.w h)) r3 qz (qk rfl (fun h=>oM (.w h)) r2 qz (Chain.cons (Cert.cond2 rfl rfl (fun h=>o_move .t (by rfl))) r2 qz (Chain.cons (Cert.cond2 rfl rfl (fun h=>o_move (.w h) (by rfl))) r2 qz (Chain.cons (Cert.cond2 rfl rfl (fun h=>o_load (ag:=true) (sz:=2) 106 .is (by kernel_rfl) (by kernel_rfl) (by kernel_rfl) (by rfl))) r2 r1 (Chain.cons (Cert.cond2 rfl rfl (fun h=>o_load (ag:=true) (sz:=2) 107 .is (by kernel_rfl) (by kernel_rfl) (by kernel_rfl) (by rfl))) r2 r1 (Chain.cons (Cert.cond2 rfl rfl (fun h=>o_callP (sameOrder_c ((seekK OrdD.key d.new id).getD zeroR) ((seekK OrdD.key e.old id).getD zeroR)) Tryz.func61 rfl (by kernel_rfl) (Args.two (.pagg (.w h)) (.pagg (.w h))))) r3 qz (Chain.cons (Cert.cond2 rfl rfl (fun h=>o_not (.w h))) r2 qz (Chain.cons (Cert.cond2 rfl rfl (fun h=>o_and2 (.w h) (.wc h))) r3 qz (qk rfl (fun h=>o_or2 (.w h) (.wc h)) r3 qz (qf (o_and2 .t .t) r2 qz qZ)))))))))))))))))) hB [73,19,18,17,16,15,14,13,12,11,10,9,8,4] [108,107,106,105,104,103,102,101,62,61,1,0] rfl rfl ?_
 clear hS;intro a w F hS
 try dsimp only [List.map,xD,xE,xT,xU,ldSF,rHist,rTx,rOrd,rVer,rInt,rOp,rDelta] at hS
 refine then_n ?_
 refine cond_b hS rfl (fun hc0=>?_) (fun hc0=>?_)
 ·skip
  have h9:(((((seekK OrdD.key d.old id).isSome || (seekK OrdD.key d.new id).isSome) && ((seekK OrdD.key e.old id).isSome || (seekK OrdD.key e.new id).isSome)) && (((seekK OrdD.key d.new id).isSome != (seekK OrdD.key e.old id).isSome) || ((seekK OrdD.key d.new id).isSome && !decide ((seekK OrdD.key d.new id).getD zeroR=(seekK OrdD.key e.old id).getD zeroR)))))=true:=hc0
  rw [opt_ne] at h9
  have hjn:joinS OrdD.key d.old d.new e.old e.new id=none:=by unfold joinS;rw [if_pos (by simpa [and_assoc] using h9)]
  have hg:joinT OrdD.key d.old d.new e.old e.new id (wl,nl)=((wl,nl),false):=by unfold joinT;rw [hjn]
  refine wp_seq ?_
  refine region_z hS (qf (oL true 4 101 .is) r1 r1 (qf (oA 4 104 .is .t) r2 r1 (qf (oN .cb) trivial qz qZ))) hB [19,18,17,16,15,14,13,12,11,10,9,8,4] [108,107,106,105,104,103,102,101,62,61,1,0] rfl rfl ?_
  clear hS;intro a w F hS
  refine then_n (wp_ret (then_r ?_))
  have hS:=hS.turn 61 rfl (r':=.ob (.val v1) (rowH 37 2 rOrd (joinT OrdD.key d.old d.new e.old e.new id (wl,nl)).1.1)) (fun _ _ _ _ h=>by rw [hg];exact h)
  have hS:=hS.turn 62 rfl (r':=.ob (.val v2) (rowH 37 2 rOrd (joinT OrdD.key d.old d.new e.old e.new id (wl,nl)).1.2)) (fun _ _ _ _ h=>by rw [hg];exact h)
  obtain ⟨F,hS⟩:=hS.push 1 62 rfl rfl rfl rfl
  obtain ⟨F,hS⟩:=hS.push 1 61 rfl rfl rfl rfl
  refine ret_JR hG hS rfl (.cell (n:=104) (ag:=true) (sz:=4) rfl .is rfl (by kernel_rfl) (by kernel_rfl) (by kernel_rfl) (.tmp rfl .nil)) (.two (.aggU rfl rfl) (.bool (by rw [hg]))) rfl
 have h9:(((((seekK OrdD.key d.old id).isSome || (seekK OrdD.key d.new id).isSome) && ((seekK OrdD.key e.old id).isSome || (seekK OrdD.key e.new id).isSome)) && (((seekK OrdD.key d.new id).isSome != (seekK OrdD.key e.old id).isSome) || ((seekK OrdD.key d.new id).isSome && !decide ((seekK OrdD.key d.new id).getD zeroR=(seekK OrdD.key e.old id).getD zeroR)))))=false:=hc0
 rw [opt_ne] at h9
 have hjn:joinS OrdD.key d.old d.new e.old e.new id=some ((if ((seekK OrdD.key d.old id).isSome || (seekK OrdD.key d.new id).isSome)=true then (seekK OrdD.key d.old id) else (seekK OrdD.key e.old id)),(if ((seekK OrdD.key e.old id).isSome || (seekK OrdD.key e.new id).isSome)=true then (seekK OrdD.key e.new id) else (seekK OrdD.key d.new id))):=by unfold joinS;rw [if_neg (by rintro ⟨e1,e2,e3⟩;rw [e1,e2,decide_eq_true e3] at h9;cases h9)]
 refine wp_skip (then_n (wp_seq (wp_seq ?_)))
 refine region_z hS (qM rfl rfl (qf (o_not .t) r1 qz qZ)) hB [76,19,17,16,15,14,13,12,11,10,9,8,4] [108,107,106,105,104,103,102,101,62,61,1,0] rfl rfl ?_
 clear hS;intro a w F hS
 refine then_n ?_
 refine join_keep (σ:=Option OrdD) [4,8,9,10,12,13,16,17,19] [0,1,61,62,101,102,103,104,106,107,108] (fun s=>[(11,.pv (.bool (s).isSome))]) (fun s=>[(105,.pt (.val v10) 37 [.pv (.int .i64 ((s).getD zeroR).key),.pv (.sl rInt ((s).getD zeroR).txs)])]) (fun s=>s=(if ((seekK OrdD.key d.old id).isSome || (seekK OrdD.key d.new id).isSome)=true then (seekK OrdD.key d.old id) else (seekK OrdD.key e.old id))) hS ?_ ?_
 ·skip
  refine cond_b hS rfl (fun hc1=>?_) (fun hc1=>?_)
  ·skip
   have h8:((seekK OrdD.key d.old id).isSome || (seekK OrdD.key d.new id).isSome)=false:=not_tr hc1
   have hjP:(seekK OrdD.key e.old id)=(if ((seekK OrdD.key d.old id).isSome || (seekK OrdD.key d.new id).isSome)=true then (seekK OrdD.key d.old id) else (seekK OrdD.key e.old id)):=by rw [if_neg (by rw [h8];exact Bool.false_ne_true)]
   refine region_z hS (qf (oL true 2 107 .is) r1 r1 (qM rfl rfl (qf (oA 2 105 .is .t) r2 r1 (qN rfl rfl qZ)))) hB [19,17,16,13,12,11,10,9,8,4] [108,107,106,105,104,103,102,101,62,61,1,0] rfl rfl ?_
   clear hS;intro a w F hS
   refine then_n ?_
   obtain ⟨F,hS⟩:=hS.nm [19,17,16,13,12,10,9,8,4,11] [108,107,106,104,103,102,101,62,61,1,0,105] rfl rfl
   exact ⟨_,F,hjP,hS⟩
  have h8:((seekK OrdD.key d.old id).isSome || (seekK OrdD.key d.new id).isSome)=true:=not_fl hc1
  have hjP:(seekK OrdD.key d.old id)=(if ((seekK OrdD.key d.old id).isSome || (seekK OrdD.key d.new id).isSome)=true then (seekK OrdD.key d.old id) else (seekK OrdD.key e.old id)):=by rw [if_pos h8]
  refine wp_skip (then_n ?_)
  obtain ⟨F,hS⟩:=hS.nm [19,17,16,13,12,10,9,8,4,11] [108,107,106,104,103,102,101,62,61,1,0,105] rfl rfl
  exact ⟨_,F,hjP,hS⟩
 clear hS;intro P a w F hC hS
 try dsimp only at hC
 obtain ⟨F,hS⟩:=hS.nm [19,17,16,13,12,11,10,9,8,4] [108,107,106,105,104,103,102,101,62,61,1,0] rfl rfl
 try dsimp only at hS
 have hP:=hC
 refine wp_seq (wp_seq ?_)
 refine region_z hS (qM rfl rfl (qf (o_not .t) r1 qz qZ)) hB [80,17,16,13,12,11,10,9,8,4] [108,107,106,105,104,103,102,101,62,61,1,0] rfl rfl ?_
 clear hS;intro a w F hS
 refine then_n ?_
 refine join_keep (σ:=Option OrdD) [4,8,9,10,11,16] [0,1,61,62,101,102,103,104,105,106,107] (fun s=>[(17,.pv (.bool (s).isSome))]) (fun s=>[(108,.pt (.val v16) 37 [.pv (.int .i64 ((s).getD zeroR).key),.pv (.sl rInt ((s).getD zeroR).txs)])]) (fun s=>s=(if ((seekK OrdD.key e.old id).isSome || (seekK OrdD.key e.new id).isSome)=true then (seekK OrdD.key e.new id) else (seekK OrdD.key d.new id))) hS ?_ ?_
 ·skip
  refine cond_b hS rfl (fun hc2=>?_) (fun hc2=>?_)
  ·skip
   have h7:((seekK OrdD.key e.old id).isSome || (seekK OrdD.key e.new id).isSome)=false:=not_tr hc2
   have hjZ:(seekK OrdD.key d.new id)=(if ((seekK OrdD.key e.old id).isSome || (seekK OrdD.key e.new id).isSome)=true then (seekK OrdD.key e.new id) else (seekK OrdD.key d.new id)):=by rw [if_neg (by rw [h7];exact Bool.false_ne_true)]
   refine region_z hS (qf (oL true 2 106 .is) r1 r1 (qM rfl rfl (qf (oA 2 108 .is .t) r2 r1 (qN rfl rfl qZ)))) hB [17,16,11,10,9,8,4] [108,107,106,105,104,103,102,101,62,61,1,0] rfl rfl ?_
   clear hS;intro a w F hS
   refine then_n ?_
   obtain ⟨F,hS⟩:=hS.nm [16,11,10,9,8,4,17] [107,106,105,104,103,102,101,62,61,1,0,108] rfl rfl
   exact ⟨_,F,hjZ,hS⟩
  have h7:((seekK OrdD.key e.old id).isSome || (seekK OrdD.key e.new id).isSome)=true:=not_fl hc2
  have hjZ:(seekK OrdD.key e.new id)=(if ((seekK OrdD.key e.old id).isSome || (seekK OrdD.key e.new id).isSome)=true then (seekK OrdD.key e.new id) else (seekK OrdD.key d.new id)):=by rw [if_pos h7]
  refine wp_skip (then_n ?_)
  obtain ⟨F,hS⟩:=hS.nm [16,11,10,9,8,4,17] [107,106,105,104,103,102,101,62,61,1,0,108] rfl rfl
  exact ⟨_,F,hjZ,hS⟩
 clear hS;intro Z a w F hC hS
 try dsimp only at hC
 obtain ⟨F,hS⟩:=hS.nm [17,16,11,10,9,8,4] [108,107,106,105,104,103,102,101,62,61,1,0] rfl rfl
 try dsimp only at hS
 have hZ:=hC
 refine wp_seq (wp_seq ?_)
 refine region_z hS (qM rfl rfl (qM rfl rfl (qf (o_eqlB Tryz.underlying4 .t .t) r2 qz (qM rfl rfl (qk rfl (fun h=>oL true 2 105 .is) r2 r1 (qk rfl (fun h=>oL true 2 108 .is) r2 r1 (qk rfl (fun h=>oP (sameOrder_c (P.getD zeroR) (Z.getD zeroR)) Tryz.func61 (Args.two (.pagg (.w h)) (.pagg (.w h)))) r3 qz (qf (o_and2 .t .t) r2 qz qZ)))))))) hB [90,17,16,11,10,9,8,4] [108,107,106,105,104,103,102,101,62,61,1,0] rfl rfl ?_
 clear hS;intro a w F hS
 refine then_n ?_
 refine cond_b hS rfl (fun hc3=>?_) (fun hc3=>?_)
 ·skip
  rw [← hP,← hZ] at hjn
  have h9:((P.isSome == Z.isSome) && decide (P.getD zeroR=Z.getD zeroR))=true:=hc3
  rw [opt_eq3,decide_eq_true_eq] at h9
  have hg:joinT OrdD.key d.old d.new e.old e.new id (wl,nl)=((wl,nl),true):=by unfold joinT joinP;rw [hjn];dsimp only;rw [if_pos h9]
  refine wp_seq ?_
  refine region_z hS (qf (oL true 4 101 .is) r1 r1 (qf (oA 4 104 .is .t) r2 r1 (qf (oN .cb) trivial qz qZ))) hB [17,16,11,10,9,8,4] [108,107,106,105,104,103,102,101,62,61,1,0] rfl rfl ?_
  clear hS;intro a w F hS
  refine then_n (wp_ret (then_r ?_))
  have hS:=hS.turn 61 rfl (r':=.ob (.val v1) (rowH 37 2 rOrd (joinT OrdD.key d.old d.new e.old e.new id (wl,nl)).1.1)) (fun _ _ _ _ h=>by rw [hg];exact h)
  have hS:=hS.turn 62 rfl (r':=.ob (.val v2) (rowH 37 2 rOrd (joinT OrdD.key d.old d.new e.old e.new id (wl,nl)).1.2)) (fun _ _ _ _ h=>by rw [hg];exact h)
  obtain ⟨F,hS⟩:=hS.push 1 62 rfl rfl rfl rfl
  obtain ⟨F,hS⟩:=hS.push 1 61 rfl rfl rfl rfl
  refine ret_JR hG hS rfl (.cell (n:=104) (ag:=true) (sz:=4) rfl .is rfl (by kernel_rfl) (by kernel_rfl) (by kernel_rfl) (.tmp rfl .nil)) (.two (.aggU rfl rfl) (.bool (by rw [hg]))) rfl
 rw [← hP,← hZ] at hjn
 have h9:((P.isSome == Z.isSome) && decide (P.getD zeroR=Z.getD zeroR))=false:=hc3
 rw [opt_eq3,decide_eq_false_iff_not] at h9
 refine wp_skip (then_n (wp_seq (wp_seq ?_)))
 refine region_z hS (qM rfl rfl qZ) hB [92,17,16,10,9,8,4] [108,107,106,105,104,103,102,101,62,61,1,0] rfl rfl ?_
 clear hS;intro a w F hS
 refine then_n ?_
 refine cond_b hS rfl (fun hc4=>?_) (fun hc4=>?_)
 ·skip
  obtain ⟨la,lae⟩:∃ z,z=wl ++ [P.getD zeroR]:=⟨_,rfl⟩
  have hla2:la=wl++P.toList:=by rw [lae];have h8:=hc4;clear hP hjn;cases P with | none=>simp at h8 | some v=>rfl
  refine region_q hS (qf (oF 2 101 .is) r1 r1 (qf (oL false 1 101 .adr) r1 r1 (qf (oL true 2 105 .is) r1 r1 (qf (o_buildSliceE (sz:=2) (zs:=[.int .i64 0,.slice none 0 0]) (r:=[(0,.tmp 95)]) (l:=[_,_]) Tryz.underlying28 (by kernel_rfl) (by kernel_rfl) (by kernel_rfl) (by kernel_rfl) rfl rfl (.agg rfl .t (by kernel_rfl) (by kernel_rfl) .nil) rfl) r1 qz (qf (o_append (sz:=2) (bs:=32) 61 (.mk' Tryz.underlying28 (by kernel_rfl) (by kernel_rfl)) (by intro x;rfl) .is (.arr (l':=[(P.getD zeroR)]) .t) (by simp only [List.length_cons,List.length_nil];omega) (by decide)) ⟨rfl,rfl,trivial⟩ ⟨rfl,trivial⟩ (qf (oF 2 101 .is) r1 r1 (qf (o_storeS 101 .adr (by kernel_rfl) (by kernel_rfl)) r2 r1 qZ))))))) hB ?_
  clear hS;intro a w F hS
  replace hS:=hS.sub
  obtain ⟨F,hS⟩:=hS.nm [17,16,9,8,4] [108,107,106,105,104,103,102,101,62,61,1,0] rfl rfl
  try dsimp only [RS.sub,SF.sub,CF.sub,csub,Anc.sub,List.map,stCells,xL,xM,Nat.reduceAdd,xD,xE,xT,xU,xC,xN,zCF,ldSF,rHist,rTx,rOrd,rVer,rInt,rOp,rDelta] at hS
  generalize Act.tau a 97=v97 at hS
  rw [← lae] at hS
  refine then_n (wp_seq (wp_seq ?_))
  refine region_z hS (qM rfl rfl qZ) hB [99,16,9,8,4] [108,107,106,105,104,103,102,101,62,61,1,0] rfl rfl ?_
  clear hS;intro a w F hS
  refine then_n ?_
  refine cond_b hS rfl (fun hc5=>?_) (fun hc5=>?_)
  ·skip
   obtain ⟨lb,lbe⟩:∃ z,z=nl ++ [Z.getD zeroR]:=⟨_,rfl⟩
   have hlb2:lb=nl++Z.toList:=by rw [lbe];have h8:=hc5;clear hZ hjn;cases Z with | none=>simp at h8 | some v=>rfl
   have hg:joinT OrdD.key d.old d.new e.old e.new id (wl,nl)=((la,lb),true):=by unfold joinT joinP;rw [hjn];dsimp only;rw [if_neg h9,hla2,hlb2]
   refine region_q hS (qf (oF 3 101 .is) r1 r1 (qf (oL false 1 101 .adr) r1 r1 (qf (oL true 2 108 .is) r1 r1 (qf (o_buildSliceE (sz:=2) (zs:=[.int .i64 0,.slice none 0 0]) (r:=[(0,.tmp 102)]) (l:=[_,_]) Tryz.underlying28 (by kernel_rfl) (by kernel_rfl) (by kernel_rfl) (by kernel_rfl) rfl rfl (.agg rfl .t (by kernel_rfl) (by kernel_rfl) .nil) rfl) r1 qz (qf (o_append (sz:=2) (bs:=32) 62 (.mk' Tryz.underlying28 (by kernel_rfl) (by kernel_rfl)) (by intro x;rfl) .is (.arr (l':=[(Z.getD zeroR)]) .t) (by simp only [List.length_cons,List.length_nil];omega) (by decide)) ⟨rfl,rfl,trivial⟩ ⟨rfl,trivial⟩ (qf (oF 3 101 .is) r1 r1 (qf (o_storeS 101 .adr (by kernel_rfl) (by kernel_rfl)) r2 r1 qZ))))))) hB ?_
   clear hS;intro a w F hS
   replace hS:=hS.sub
   obtain ⟨F,hS⟩:=hS.nm [9,8,4] [108,107,106,105,104,103,102,101,62,61,1,0] rfl rfl
   try dsimp only [RS.sub,SF.sub,CF.sub,csub,Anc.sub,List.map,stCells,xL,xM,Nat.reduceAdd,xD,xE,xT,xU,xC,xN,zCF,ldSF,rHist,rTx,rOrd,rVer,rInt,rOp,rDelta] at hS
   generalize Act.tau a 104=v104 at hS
   rw [← lbe] at hS
   refine then_n (wp_seq ?_)
   refine region_z hS (qf (oL true 4 101 .is) r1 r1 (qf (oA 4 104 .is .t) r2 r1 (qf (oN .cb) trivial qz qZ))) hB [9,8] [108,107,106,105,104,103,102,101,62,61,1,0] rfl rfl ?_
   clear hS;intro a w F hS
   refine then_n (wp_ret ?_)
   have hS:=hS.turn 61 rfl (r':=.ob (.val v97) (rowH 37 2 rOrd (joinT OrdD.key d.old d.new e.old e.new id (wl,nl)).1.1)) (fun _ _ _ _ h=>by rw [hg];exact h)
   have hS:=hS.turn 62 rfl (r':=.ob (.val v104) (rowH 37 2 rOrd (joinT OrdD.key d.old d.new e.old e.new id (wl,nl)).1.2)) (fun _ _ _ _ h=>by rw [hg];exact h)
   obtain ⟨F,hS⟩:=hS.push 1 62 rfl rfl rfl rfl
   obtain ⟨F,hS⟩:=hS.push 1 61 rfl rfl rfl rfl
   refine ret_JR hG hS rfl (.cell (n:=104) (ag:=true) (sz:=4) rfl .is rfl (by kernel_rfl) (by kernel_rfl) (by kernel_rfl) (.tmp rfl .nil)) (.two (.aggU rfl rfl) (.bool (by rw [hg]))) rfl
  obtain ⟨lb,lbe⟩:∃ z,z=nl:=⟨_,rfl⟩
  rw [← lbe] at hS
  have hlb2:lb=nl++Z.toList:=by rw [lbe];have h8:=hc5;clear hZ hjn;cases Z with | some v=>simp at h8 | none=>simp
  have hg:joinT OrdD.key d.old d.new e.old e.new id (wl,nl)=((la,lb),true):=by unfold joinT joinP;rw [hjn];dsimp only;rw [if_neg h9,hla2,hlb2]
  refine wp_skip (then_n (wp_seq ?_))
  refine region_z hS (qf (oL true 4 101 .is) r1 r1 (qf (oA 4 104 .is .t) r2 r1 (qf (oN .cb) trivial qz qZ))) hB [9,8] [108,107,106,105,104,103,102,101,62,61,1,0] rfl rfl ?_
  clear hS;intro a w F hS
  refine then_n (wp_ret ?_)
  have hS:=hS.turn 61 rfl (r':=.ob (.val v97) (rowH 37 2 rOrd (joinT OrdD.key d.old d.new e.old e.new id (wl,nl)).1.1)) (fun _ _ _ _ h=>by rw [hg];exact h)
  have hS:=hS.turn 62 rfl (r':=.ob (.val v2) (rowH 37 2 rOrd (joinT OrdD.key d.old d.new e.old e.new id (wl,nl)).1.2)) (fun _ _ _ _ h=>by rw [hg];exact h)
  obtain ⟨F,hS⟩:=hS.push 1 62 rfl rfl rfl rfl
  obtain ⟨F,hS⟩:=hS.push 1 61 rfl rfl rfl rfl
  refine ret_JR hG hS rfl (.cell (n:=104) (ag:=true) (sz:=4) rfl .is rfl (by kernel_rfl) (by kernel_rfl) (by kernel_rfl) (.tmp rfl .nil)) (.two (.aggU rfl rfl) (.bool (by rw [hg]))) rfl
 obtain ⟨la,lae⟩:∃ z,z=wl:=⟨_,rfl⟩
 rw [← lae] at hS
 have hla2:la=wl++P.toList:=by rw [lae];have h8:=hc4;clear hP hjn;cases P with | some v=>simp at h8 | none=>simp
 refine wp_skip (then_n (wp_seq (wp_seq ?_)))
 refine region_z hS (qM rfl rfl qZ) hB [99,16,9,8,4] [108,107,106,105,104,103,102,101,62,61,1,0] rfl rfl ?_
 clear hS;intro a w F hS
 refine then_n ?_
 refine cond_b hS rfl (fun hc6=>?_) (fun hc6=>?_)
 ·skip
  obtain ⟨lb,lbe⟩:∃ z,z=nl ++ [Z.getD zeroR]:=⟨_,rfl⟩
  have hlb2:lb=nl++Z.toList:=by rw [lbe];have h8:=hc6;clear hZ hjn;cases Z with | none=>simp at h8 | some v=>rfl
  have hg:joinT OrdD.key d.old d.new e.old e.new id (wl,nl)=((la,lb),true):=by unfold joinT joinP;rw [hjn];dsimp only;rw [if_neg h9,hla2,hlb2]
  refine region_q hS (qf (oF 3 101 .is) r1 r1 (qf (oL false 1 101 .adr) r1 r1 (qf (oL true 2 108 .is) r1 r1 (qf (o_buildSliceE (sz:=2) (zs:=[.int .i64 0,.slice none 0 0]) (r:=[(0,.tmp 102)]) (l:=[_,_]) Tryz.underlying28 (by kernel_rfl) (by kernel_rfl) (by kernel_rfl) (by kernel_rfl) rfl rfl (.agg rfl .t (by kernel_rfl) (by kernel_rfl) .nil) rfl) r1 qz (qf (o_append (sz:=2) (bs:=32) 62 (.mk' Tryz.underlying28 (by kernel_rfl) (by kernel_rfl)) (by intro x;rfl) .is (.arr (l':=[(Z.getD zeroR)]) .t) (by simp only [List.length_cons,List.length_nil];omega) (by decide)) ⟨rfl,rfl,trivial⟩ ⟨rfl,trivial⟩ (qf (oF 3 101 .is) r1 r1 (qf (o_storeS 101 .adr (by kernel_rfl) (by kernel_rfl)) r2 r1 qZ))))))) hB ?_
  clear hS;intro a w F hS
  replace hS:=hS.sub
  obtain ⟨F,hS⟩:=hS.nm [9,8,4] [108,107,106,105,104,103,102,101,62,61,1,0] rfl rfl
  try dsimp only [RS.sub,SF.sub,CF.sub,csub,Anc.sub,List.map,stCells,xL,xM,Nat.reduceAdd,xD,xE,xT,xU,xC,xN,zCF,ldSF,rHist,rTx,rOrd,rVer,rInt,rOp,rDelta] at hS
  generalize Act.tau a 104=v104 at hS
  rw [← lbe] at hS
  refine then_n (wp_seq ?_)
  refine region_z hS (qf (oL true 4 101 .is) r1 r1 (qf (oA 4 104 .is .t) r2 r1 (qf (oN .cb) trivial qz qZ))) hB [9,8] [108,107,106,105,104,103,102,101,62,61,1,0] rfl rfl ?_
  clear hS;intro a w F hS
  refine then_n (wp_ret ?_)
  have hS:=hS.turn 61 rfl (r':=.ob (.val v1) (rowH 37 2 rOrd (joinT OrdD.key d.old d.new e.old e.new id (wl,nl)).1.1)) (fun _ _ _ _ h=>by rw [hg];exact h)
  have hS:=hS.turn 62 rfl (r':=.ob (.val v104) (rowH 37 2 rOrd (joinT OrdD.key d.old d.new e.old e.new id (wl,nl)).1.2)) (fun _ _ _ _ h=>by rw [hg];exact h)
  obtain ⟨F,hS⟩:=hS.push 1 62 rfl rfl rfl rfl
  obtain ⟨F,hS⟩:=hS.push 1 61 rfl rfl rfl rfl
  refine ret_JR hG hS rfl (.cell (n:=104) (ag:=true) (sz:=4) rfl .is rfl (by kernel_rfl) (by kernel_rfl) (by kernel_rfl) (.tmp rfl .nil)) (.two (.aggU rfl rfl) (.bool (by rw [hg]))) rfl
 obtain ⟨lb,lbe⟩:∃ z,z=nl:=⟨_,rfl⟩
 rw [← lbe] at hS
 have hlb2:lb=nl++Z.toList:=by rw [lbe];have h8:=hc6;clear hZ hjn;cases Z with | some v=>simp at h8 | none=>simp
 have hg:joinT OrdD.key d.old d.new e.old e.new id (wl,nl)=((la,lb),true):=by unfold joinT joinP;rw [hjn];dsimp only;rw [if_neg h9,hla2,hlb2]
 refine wp_skip (then_n (wp_seq ?_))
 refine region_z hS (qf (oL true 4 101 .is) r1 r1 (qf (oA 4 104 .is .t) r2 r1 (qf (oN .cb) trivial qz qZ))) hB [9,8] [108,107,106,105,104,103,102,101,62,61,1,0] rfl rfl ?_
 clear hS;intro a w F hS
 refine then_n (wp_ret ?_)
 have hS:=hS.turn 61 rfl (r':=.ob (.val v1) (rowH 37 2 rOrd (joinT OrdD.key d.old d.new e.old e.new id (wl,nl)).1.1)) (fun _ _ _ _ h=>by rw [hg];exact h)
 have hS:=hS.turn 62 rfl (r':=.ob (.val v2) (rowH 37 2 rOrd (joinT OrdD.key d.old d.new e.old e.new id (wl,nl)).1.2)) (fun _ _ _ _ h=>by rw [hg];exact h)
 obtain ⟨F,hS⟩:=hS.push 1 62 rfl rfl rfl rfl
 obtain ⟨F,hS⟩:=hS.push 1 61 rfl rfl rfl rfl
 refine ret_JR hG hS rfl (.cell (n:=104) (ag:=true) (sz:=4) rfl .is rfl (by kernel_rfl) (by kernel_rfl) (by kernel_rfl) (.tmp rfl .nil)) (.two (.aggU rfl rfl) (.bool (by rw [hg]))) rfl
end Go.Proofs.YtcfgcpcakdknkaaGreat
namespace Go.Proofs.YtcfgcpcakdknkaaGreat
open Go Go.Gm
set_option linter.unusedVariables false
set_option linter.unusedSimpArgs false
set_option maxHeartbeats 4000000
set_option maxRecDepth 8000
theorem join14_c (d e:DeltaD) (hd:SmallD d) (he:SmallD e):FnP Tryz.prog 26 [.agg (rDelta d),.agg (rDelta e)] (.tup [.agg (rDelta (joinD d e).1),.int .i64 (joinD d e).2]):=by
 refine FnP.mk Tryz.func26 rfl Tryz.ntmps26 rfl ?_
 intro B a w F hB hfr hS
 have hw1:d.was.length≤1000:=hd.1.1.1
 have hw2:d.now.length≤1000:=hd.2.1.1
 have hw3:d.old.length≤1000:=hd.1.2.1
 have hw4:d.new.length≤1000:=hd.2.2.1
 have hw5:e.was.length≤1000:=he.1.1.1
 have hw6:e.now.length≤1000:=he.2.1.1
 have hw7:e.old.length≤1000:=he.1.2.1
 have hw8:e.new.length≤1000:=he.2.2.1
 have hkT:(keysK TxD.id d.was d.now e.was e.now).length≤4000:=by have:=keysL_len ((d.was++d.now++e.was++e.now).map TxD.id);rw [List.length_map] at this;simp only [List.length_append] at this;unfold keysK;omega
 have hkO:(keysK OrdD.key d.old d.new e.old e.new).length≤4000:=by have:=keysL_len ((d.old++d.new++e.old++e.new).map OrdD.key);rw [List.length_map] at this;simp only [List.length_append] at this;unfold keysK;omega
 refine wp_seq ?_
 refine region_q hS (qf (oX 101 (.conv .t .agg)) r1 qz (qf (oX 102 (.conv .t .agg)) r1 qz (qf (oH [.slice none 0 0,.slice none 0 0,.slice none 0 0,.slice none 0 0] 103) trivial qz (qf (oN qi) trivial qz qZ)))) hB ?_
 clear hS;intro a w F hS
 replace hS:=hS.sub
 obtain ⟨F,hS⟩:=hS.nm [5,4,3,2] [103,102,101,0] rfl rfl
 try dsimp only [RS.sub,SF.sub,CF.sub,csub,Anc.sub,List.map,zCF,rHist,rTx,rOrd,rVer,rInt,rOp,rDelta] at hS
 generalize Act.tau a 2=v2 at hS
 generalize Act.tau a 3=v3 at hS
 generalize Act.tau a 4=v4 at hS
 refine then_n (wp_seq (wp_seq ?_))
 refine region_z hS (qf (oL true 4 101 .is) r1 r1 (qf (oP (right14_c d) Tryz.func29 (Args.one (.pagg .t))) r1 qz (qf (o_not .t) r1 qz (qM rfl rfl (qk rfl (fun h=>oL true 4 102 .is) r2 r1 (qk rfl (fun h=>oP (right14_c e) Tryz.func29 (Args.one (.pagg (.w h)))) r2 qz (qk rfl (fun h=>o_not (.w h)) r2 qz (qf (o_or2 .t .t) r2 qz qZ)))))))) hB [22,5,4,3,2] [103,102,101,0] rfl rfl ?_
 clear hS;intro a w F hS
 refine then_n ?_
 refine cond_b hS rfl (fun hc0=>?_) (fun hc0=>?_)
 ·skip
  have h9:(!decide (RightD d) || !decide (RightD e))=true:=hc0
  have hg:joinD d e=(noD,5):=by unfold joinD;rw [if_neg (by rintro ⟨e1,e2⟩;rw [decide_eq_true e1,decide_eq_true e2] at h9;cases h9)]
  refine wp_seq ?_
  refine region_z hS (qf (oB [] [.slice none 0 0,.slice none 0 0,.slice none 0 0,.slice none 0 0] [(0,1),(1,1),(2,1),(3,1)] .nil) trivial qz (qf (oA 4 103 .is .t) r2 r1 (qf (oN qi) trivial qz qZ))) hB [5,4,3,2] [103,102,101,0] rfl rfl ?_
  clear hS;intro a w F hS
  refine then_n (wp_ret (then_r ?_))
  refine ret_P hfr hS rfl (.cell (n:=103) (ag:=true) (sz:=4) rfl .is rfl (by kernel_rfl) (by kernel_rfl) (by kernel_rfl) (.tmp rfl .nil)) (.two (by rw [hg];exact .aggLe rfl noD_le) (.int (by rw [hg])))
 have h9:(!decide (RightD d) || !decide (RightD e))=false:=hc0
 have hr:RightD d∧RightD e:=by simpa using h9
 refine wp_skip (then_n (wp_seq ?_))
 refine region_q hS (qf (oH [.slice none 0 0,.slice none 0 0,.slice none 0 0,.slice none 0 0] 104) trivial qz qZ) hB ?_
 clear hS;intro a w F hS
 replace hS:=hS.sub
 obtain ⟨F,hS⟩:=hS.nm [6,5,4,3,2] [104,103,102,101,0] rfl rfl
 try dsimp only [RS.sub,SF.sub,CF.sub,csub,Anc.sub,List.map,zCF,rHist,rTx,rOrd,rVer,rInt,rOp,rDelta] at hS
 generalize Act.tau a 6=v6 at hS
 refine then_n (wp_seq (wp_seq ?_))
 refine region_z hS (qf (oL true 4 101 .is) r1 r1 (qf (oL true 4 102 .is) r1 r1 (qf (oP (ids14_c d e hd he) Tryz.func72 (Args.two (.pagg .t) (.pagg .t))) r2 qz (qf (o_len_sl Tryz.underlying35 .t) r1 qz (qf (oM qi) trivial qz qZ))))) hB [28,27,26,6,5,4,3,2] [104,103,102,101,0] rfl rfl ?_
 clear hS;intro a w F hS
 refine then_n (wp_block ?_)
 replace hS:=hS.fresh 50 rfl
 replace hS:=hS.turn 50 rfl (nilRow (T:=34) (sz:=3) (R:=rTx))
 replace hS:=hS.fresh 51 rfl
 replace hS:=hS.turn 51 rfl (nilRow (T:=34) (sz:=3) (R:=rTx))
 refine loop_keep (σ:=(Nat)×(Value)×(Value)×(List TxD)×(List TxD)) [2,3,4,5,6,26,27] [0,101,102,103] (fun s=>[(28,.pv (.int .i64 (s.1:Int)))]) (fun s=>[(104,.pt (.val v6) 44 [.pv (.is s.2.1),.pv (.is s.2.2.1),.pv (.is (.slice none 0 0)),.pv (.is (.slice none 0 0))]),(50,.ob (.val s.2.1) (rowH 34 3 rTx s.2.2.2.1)),(51,.ob (.val s.2.2.1) (rowH 34 3 rTx s.2.2.2.2))]) (fun s=>s.1≤(keysK TxD.id d.was d.now e.was e.now).length∧(joinG TxD.id d.was d.now e.was e.now ((keysK TxD.id d.was d.now e.was e.now).take s.1)=some (s.2.2.2.1,s.2.2.2.2))) (fun s=>(keysK TxD.id d.was d.now e.was e.now).length - s.1) ((0),(.slice none 0 0),(.slice none 0 0),([]),([])) hS ⟨rfl,rfl,rfl,rfl,rfl,rfl,rfl,rfl,trivial⟩ ⟨rfl,rfl,rfl,rfl,rfl,rfl,rfl,trivial⟩ ⟨Nat.zero_le _,rfl⟩ ?_
 clear hS;intro s a w F hC hS
 obtain ⟨i,va,vb,wl,nl⟩:=s
 try dsimp only at hC
 obtain ⟨F,hS⟩:=hS.nm [28,27,26,6,5,4,3,2] [104,103,102,101,51,50,0] rfl rfl
 try dsimp only at hS
 obtain ⟨hi,hq⟩:=hC
 have hjl:=joinG_len _ ([],[]) _ hq
 rw [List.length_take] at hjl
 dsimp only [xM] at hjl
 refine wp_seq ?_
 refine region_z hS (qf (o_lss .t .t) r2 qz qZ) hB [29,28,27,26,6,5,4,3,2] [104,103,102,101,51,50,0] rfl rfl ?_
 clear hS;intro a w F hS
 refine then_n (wp_seq ?_)
 refine cond_b hS rfl (fun hc1=>?_) (fun hc1=>?_)
 ·skip
  have hil:i<(keysK TxD.id d.was d.now e.was e.now).length:=by simp at hc1;omega
  refine wp_skip (then_n (wp_seq (wp_block (wp_seq ?_))))
  refine region_z hS (qf (o_indexAddr_sl (sz:=1) (.mk Tryz.underlying35 (by kernel_rfl)) (by intro x;rfl) .t .t (by omega) (by omega)) r2 qz (qf (oR false 1 .t) r1 qz (qN rfl rfl qZ))) hB [28,27,26,8,6,5,4,3,2] [104,103,102,101,51,50,0] rfl rfl ?_
  clear hS;intro a w F hS
  try simp only [Int.toNat_natCast] at hS
  refine then_n (wp_seq ?_)
  replace hS:=hS.fresh 60 rfl
  obtain ⟨F,hS⟩:=hS.push 60 51 rfl rfl rfl (by kernel_rfl)
  obtain ⟨F,hS⟩:=hS.push 60 50 rfl rfl rfl (by kernel_rfl)
  obtain ⟨F,hS⟩:=hS.nm [28,27,26,8,6,5,4,3,2] [104,103,102,101,60,0] rfl rfl
  refine part_first 5 hS (by kernel_rfl) (cG rfl (oL true 4 104 .is) r1 r1 (cG rfl (oL true 4 101 .is) r1 r1 (cG rfl (oL true 4 102 .is) r1 r1 (cG rfl (oM .t) r1 trivial (cG rfl (o_callFJ 60 (joinTxs_c va vb (.slice none 0 0) (.slice none 0 0) wl nl d e (Go.Gm.nth (keysK TxD.id d.was d.now e.was e.now) i) hd he (by omega) (by omega)) Tryz.func73 rfl (by kernel_rfl) (Args.four (.pagg .t) (.pagg .t) (.pagg .t) .t)) r4 r1 ChainN.nil))))) (by kernel_rfl) (by rw [hB];kernel_rfl) ?_
  clear hS;intro a w F hS
  replace hS:=hS.sub
  obtain ⟨F,hS⟩:=hS.nm [37,28,27,26,6,5,4,3,2] [104,103,102,101,60,0] rfl rfl
  try dsimp only [RS.sub,SF.sub,CF.sub,csub,Anc.sub,List.map,xD,xE,xT,xU,ldSF,rHist,rTx,rOrd,rVer,rInt,rOp,rDelta] at hS
  generalize Act.tau a 37=v37 at hS
  try dsimp only [jQT,jHT] at hS
  replace hS:=hS.turn 60 rfl (r':=RS.hp (HP.star [.ob (.val (cellT 0 v37)) (rowH 34 3 rTx (joinT TxD.id d.was d.now e.was e.now (Go.Gm.nth (keysK TxD.id d.was d.now e.was e.now) i) (wl,nl)).1.1),.ob (.val (cellT 1 v37)) (rowH 34 3 rTx (joinT TxD.id d.was d.now e.was e.now (Go.Gm.nth (keysK TxD.id d.was d.now e.was e.now) i) (wl,nl)).1.2)])) (fun _ _ _ _ h=>h)
  obtain ⟨F,hS⟩:=hS.peel 60 50 rfl rfl
  obtain ⟨F,hS⟩:=hS.peel 60 51 rfl rfl
  generalize cellT 0 v37=u1 at hS
  generalize cellT 1 v37=u2 at hS
  obtain ⟨F,hS⟩:=hS.nm [37,28,27,26,6,5,4,3,2] [104,103,102,101,51,50,0] rfl rfl
  refine part_last hS (by kernel_rfl) (cG rfl (oM .t) r1 trivial (cG rfl (o_extract .t rfl) r1 trivial (cG rfl (o_extract .t rfl) r1 trivial (cG rfl (oH [.slice none 0 0,.slice none 0 0,.slice none 0 0,.slice none 0 0] 105) trivial trivial (cG rfl (oA 4 105 .same (.conv .t .agg)) r2 r1 (cG rfl (oN .t) r1 trivial ChainN.nil)))))) (by kernel_rfl) (by rw [hB];kernel_rfl) ?_
  clear hS;intro a w F hS
  replace hS:=hS.sub
  obtain ⟨F,hS⟩:=hS.nm [28,27,26,10,9,6,5,4,3,2] [105,104,103,102,101,51,50,0] rfl rfl
  try dsimp only [RS.sub,SF.sub,CF.sub,csub,Anc.sub,List.map,stCells,xL,xM,Nat.reduceAdd,xD,xE,xT,xU,xC,xN,zCF,rHist,rTx,rOrd,rVer,rInt,rOp,rDelta] at hS
  generalize Act.tau a 9=v9 at hS
  refine then_n (wp_seq (wp_seq ?_))
  refine region_z hS (qM rfl rfl (qf (o_not .t) r1 qz qZ)) hB [41,28,27,26,9,6,5,4,3,2] [105,104,103,102,101,51,50,0] rfl rfl ?_
  clear hS;intro a w F hS
  refine then_n ?_
  refine cond_b hS rfl (fun hc2=>?_) (fun hc2=>?_)
  ·skip
   have hfn:(joinT TxD.id d.was d.now e.was e.now (Go.Gm.nth (keysK TxD.id d.was d.now e.was e.now) i) (wl,nl)).2=false:=not_tr hc2
   have hkn:joinK TxD.id d.was d.now e.was e.now=none:=by unfold joinK;exact joinG_none (i:=i+1) (by rw [joinT_step hil hq,hfn];rfl)
   have hg:joinD d e=(noD,17):=by unfold joinD;rw [if_pos hr,hkn]
   refine wp_seq ?_
   refine region_z hS (qf (oB [] [.slice none 0 0,.slice none 0 0,.slice none 0 0,.slice none 0 0] [(0,1),(1,1),(2,1),(3,1)] .nil) trivial qz (qf (oA 4 103 .is .t) r2 r1 (qf (oN qi) trivial qz qZ))) hB [28,27,26,9,6,5,4,3,2] [105,104,103,102,101,51,50,0] rfl rfl ?_
   clear hS;intro a w F hS
   refine then_n (wp_ret (then_r (block_r (then_r (then_r (block_r (then_r ?_)))))))
   refine ret_P hfr hS rfl (.cell (n:=103) (ag:=true) (sz:=4) rfl .is rfl (by kernel_rfl) (by kernel_rfl) (by kernel_rfl) (.tmp rfl .nil)) (.two (by rw [hg];exact .aggLe rfl noD_le) (.int (by rw [hg])))
  have hfn:(joinT TxD.id d.was d.now e.was e.now (Go.Gm.nth (keysK TxD.id d.was d.now e.was e.now) i) (wl,nl)).2=true:=not_fl hc2
  have hst9:joinG TxD.id d.was d.now e.was e.now ((keysK TxD.id d.was d.now e.was e.now).take (i+1))=some ((joinT TxD.id d.was d.now e.was e.now (Go.Gm.nth (keysK TxD.id d.was d.now e.was e.now) i) (wl,nl)).1.1,(joinT TxD.id d.was d.now e.was e.now (Go.Gm.nth (keysK TxD.id d.was d.now e.was e.now) i) (wl,nl)).1.2):=by rw [joinT_step hil hq,if_pos hfn]
  refine wp_skip (then_n ?_)
  refine region_z hS (qf (oL true 4 105 .is) r1 r1 (qf (oA 4 104 .is .t) r2 r1 qZ)) hB [28,27,26,6,5,4,3,2] [105,104,103,102,101,51,50,0] rfl rfl ?_
  clear hS;intro a w F hS
  refine block_n (then_n ?_)
  refine region_z hS (qf (o_add .t qi) r1 qz (qM rfl rfl qZ)) hB [28,27,26,6,5,4,3,2] [105,104,103,102,101,51,50,0] rfl rfl ?_
  clear hS;intro a w F hS
  refine then_n ?_
  replace hS:=hS.ent (i:=28) (s':=.pv (.int .i64 ((i+1:Nat):Int))) rfl (.int (wrap_succ (by omega)))
  obtain ⟨F,hS⟩:=hS.nm [27,26,6,5,4,3,2,28] [103,102,101,0,51,50,104] rfl rfl
  exact ⟨((i+1),_,_,_,_),F,⟨by omega,hst9⟩,hS,by omega⟩
 have hil:i=(keysK TxD.id d.was d.now e.was e.now).length:=by simp at hc1;omega
 have hkT2:joinK TxD.id d.was d.now e.was e.now=some (wl,nl):=by unfold joinK;rw [← hq,hil,List.take_length]
 refine wp_exit (then_x (then_x (block_x (then_n (wp_seq (wp_seq ?_))))))
 refine region_z hS (qf (oL true 4 101 .is) r1 r1 (qf (oL true 4 102 .is) r1 r1 (qf (oP (keysO14_c d e hd he) Tryz.func74 (Args.two (.pagg .t) (.pagg .t))) r2 qz (qf (o_len_sl Tryz.underlying35 .t) r1 qz (qf (oM qi) trivial qz qZ))))) hB [49,48,47,6,5,4,3,2] [104,103,102,101,51,50,0] rfl rfl ?_
 clear hS;intro a w F hS
 refine then_n (wp_block ?_)
 replace hS:=hS.fresh 52 rfl
 replace hS:=hS.turn 52 rfl (nilRow (T:=37) (sz:=2) (R:=rOrd))
 replace hS:=hS.fresh 53 rfl
 replace hS:=hS.turn 53 rfl (nilRow (T:=37) (sz:=2) (R:=rOrd))
 refine loop_keep (σ:=(Nat)×(Value)×(Value)×(List OrdD)×(List OrdD)) [2,3,4,5,6,47,48] [0,50,51,101,102,103] (fun s=>[(49,.pv (.int .i64 (s.1:Int)))]) (fun s=>[(104,.pt (.val v6) 44 [.pv (.is va),.pv (.is vb),.pv (.is s.2.1),.pv (.is s.2.2.1)]),(52,.ob (.val s.2.1) (rowH 37 2 rOrd s.2.2.2.1)),(53,.ob (.val s.2.2.1) (rowH 37 2 rOrd s.2.2.2.2))]) (fun s=>s.1≤(keysK OrdD.key d.old d.new e.old e.new).length∧(joinG OrdD.key d.old d.new e.old e.new ((keysK OrdD.key d.old d.new e.old e.new).take s.1)=some (s.2.2.2.1,s.2.2.2.2))) (fun s=>(keysK OrdD.key d.old d.new e.old e.new).length - s.1) ((0),(.slice none 0 0),(.slice none 0 0),([]),([])) hS ⟨rfl,rfl,rfl,rfl,rfl,rfl,rfl,rfl,trivial⟩ ⟨rfl,rfl,rfl,rfl,rfl,rfl,rfl,rfl,rfl,trivial⟩ ⟨Nat.zero_le _,rfl⟩ ?_
 clear hS;intro s a w F hC hS
 obtain ⟨i,vc,vd,ol,ml⟩:=s
 try dsimp only at hC
 obtain ⟨F,hS⟩:=hS.nm [49,48,47,6,5,4,3,2] [104,103,102,101,53,52,51,50,0] rfl rfl
 try dsimp only at hS
 obtain ⟨hi,hq⟩:=hC
 have hjl:=joinG_len _ ([],[]) _ hq
 rw [List.length_take] at hjl
 dsimp only [xM] at hjl
 refine wp_seq ?_
 refine region_z hS (qf (o_lss .t .t) r2 qz qZ) hB [50,49,48,47,6,5,4,3,2] [104,103,102,101,53,52,51,50,0] rfl rfl ?_
 clear hS;intro a w F hS
 refine then_n (wp_seq ?_)
 refine cond_b hS rfl (fun hc3=>?_) (fun hc3=>?_)
 ·skip
  have hil:i<(keysK OrdD.key d.old d.new e.old e.new).length:=by simp at hc3;omega
  refine wp_skip (then_n (wp_seq (wp_block (wp_seq ?_))))
  refine region_z hS (qf (o_indexAddr_sl (sz:=1) (.mk Tryz.underlying35 (by kernel_rfl)) (by intro x;rfl) .t .t (by omega) (by omega)) r2 qz (qf (oR false 1 .t) r1 qz (qN rfl rfl qZ))) hB [49,48,47,12,6,5,4,3,2] [104,103,102,101,53,52,51,50,0] rfl rfl ?_
  clear hS;intro a w F hS
  try simp only [Int.toNat_natCast] at hS
  refine then_n (wp_seq ?_)
  replace hS:=hS.fresh 60 rfl
  obtain ⟨F,hS⟩:=hS.push 60 53 rfl rfl rfl (by kernel_rfl)
  obtain ⟨F,hS⟩:=hS.push 60 52 rfl rfl rfl (by kernel_rfl)
  obtain ⟨F,hS⟩:=hS.nm [49,48,47,12,6,5,4,3,2] [104,103,102,101,60,51,50,0] rfl rfl
  refine part_first 5 hS (by kernel_rfl) (cG rfl (oL true 4 104 .is) r1 r1 (cG rfl (oL true 4 101 .is) r1 r1 (cG rfl (oL true 4 102 .is) r1 r1 (cG rfl (oM .t) r1 trivial (cG rfl (o_callFJ 60 (joinOrders_c vc vd va vb ol ml d e (Go.Gm.nth (keysK OrdD.key d.old d.new e.old e.new) i) hd he (by omega) (by omega)) Tryz.func75 rfl (by kernel_rfl) (Args.four (.pagg .t) (.pagg .t) (.pagg .t) .t)) r4 r1 ChainN.nil))))) (by kernel_rfl) (by rw [hB];kernel_rfl) ?_
  clear hS;intro a w F hS
  replace hS:=hS.sub
  obtain ⟨F,hS⟩:=hS.nm [58,49,48,47,6,5,4,3,2] [104,103,102,101,60,51,50,0] rfl rfl
  try dsimp only [RS.sub,SF.sub,CF.sub,csub,Anc.sub,List.map,xD,xE,xT,xU,ldSF,rHist,rTx,rOrd,rVer,rInt,rOp,rDelta] at hS
  generalize Act.tau a 58=v58 at hS
  try dsimp only [jQR,jHR] at hS
  replace hS:=hS.turn 60 rfl (r':=RS.hp (HP.star [.ob (.val (cellT 2 v58)) (rowH 37 2 rOrd (joinT OrdD.key d.old d.new e.old e.new (Go.Gm.nth (keysK OrdD.key d.old d.new e.old e.new) i) (ol,ml)).1.1),.ob (.val (cellT 3 v58)) (rowH 37 2 rOrd (joinT OrdD.key d.old d.new e.old e.new (Go.Gm.nth (keysK OrdD.key d.old d.new e.old e.new) i) (ol,ml)).1.2)])) (fun _ _ _ _ h=>h)
  obtain ⟨F,hS⟩:=hS.peel 60 52 rfl rfl
  obtain ⟨F,hS⟩:=hS.peel 60 53 rfl rfl
  generalize cellT 2 v58=u1 at hS
  generalize cellT 3 v58=u2 at hS
  obtain ⟨F,hS⟩:=hS.nm [58,49,48,47,6,5,4,3,2] [104,103,102,101,53,52,51,50,0] rfl rfl
  refine part_last hS (by kernel_rfl) (cG rfl (oM .t) r1 trivial (cG rfl (o_extract .t rfl) r1 trivial (cG rfl (o_extract .t rfl) r1 trivial (cG rfl (oH [.slice none 0 0,.slice none 0 0,.slice none 0 0,.slice none 0 0] 106) trivial trivial (cG rfl (oA 4 106 .same (.conv .t .agg)) r2 r1 (cG rfl (oN .t) r1 trivial ChainN.nil)))))) (by kernel_rfl) (by rw [hB];kernel_rfl) ?_
  clear hS;intro a w F hS
  replace hS:=hS.sub
  obtain ⟨F,hS⟩:=hS.nm [49,48,47,14,13,6,5,4,3,2] [106,104,103,102,101,53,52,51,50,0] rfl rfl
  try dsimp only [RS.sub,SF.sub,CF.sub,csub,Anc.sub,List.map,stCells,xL,xM,Nat.reduceAdd,xD,xE,xT,xU,xC,xN,zCF,rHist,rTx,rOrd,rVer,rInt,rOp,rDelta] at hS
  generalize Act.tau a 13=v13 at hS
  refine then_n (wp_seq (wp_seq ?_))
  refine region_z hS (qM rfl rfl (qf (o_not .t) r1 qz qZ)) hB [62,49,48,47,13,6,5,4,3,2] [106,104,103,102,101,53,52,51,50,0] rfl rfl ?_
  clear hS;intro a w F hS
  refine then_n ?_
  refine cond_b hS rfl (fun hc4=>?_) (fun hc4=>?_)
  ·skip
   have hfn:(joinT OrdD.key d.old d.new e.old e.new (Go.Gm.nth (keysK OrdD.key d.old d.new e.old e.new) i) (ol,ml)).2=false:=not_tr hc4
   have hkn:joinK OrdD.key d.old d.new e.old e.new=none:=by unfold joinK;exact joinG_none (i:=i+1) (by rw [joinT_step hil hq,hfn];rfl)
   have hg:joinD d e=(noD,17):=by unfold joinD;rw [if_pos hr,hkT2,hkn]
   refine wp_seq ?_
   refine region_z hS (qf (oB [] [.slice none 0 0,.slice none 0 0,.slice none 0 0,.slice none 0 0] [(0,1),(1,1),(2,1),(3,1)] .nil) trivial qz (qf (oA 4 103 .is .t) r2 r1 (qf (oN qi) trivial qz qZ))) hB [49,48,47,13,6,5,4,3,2] [106,104,103,102,101,53,52,51,50,0] rfl rfl ?_
   clear hS;intro a w F hS
   refine then_n (wp_ret (then_r (block_r (then_r (then_r (block_r (then_r ?_)))))))
   refine ret_P hfr hS rfl (.cell (n:=103) (ag:=true) (sz:=4) rfl .is rfl (by kernel_rfl) (by kernel_rfl) (by kernel_rfl) (.tmp rfl .nil)) (.two (by rw [hg];exact .aggLe rfl noD_le) (.int (by rw [hg])))
  have hfn:(joinT OrdD.key d.old d.new e.old e.new (Go.Gm.nth (keysK OrdD.key d.old d.new e.old e.new) i) (ol,ml)).2=true:=not_fl hc4
  have hst9:joinG OrdD.key d.old d.new e.old e.new ((keysK OrdD.key d.old d.new e.old e.new).take (i+1))=some ((joinT OrdD.key d.old d.new e.old e.new (Go.Gm.nth (keysK OrdD.key d.old d.new e.old e.new) i) (ol,ml)).1.1,(joinT OrdD.key d.old d.new e.old e.new (Go.Gm.nth (keysK OrdD.key d.old d.new e.old e.new) i) (ol,ml)).1.2):=by rw [joinT_step hil hq,if_pos hfn]
  refine wp_skip (then_n ?_)
  refine region_z hS (qf (oL true 4 106 .is) r1 r1 (qf (oA 4 104 .is .t) r2 r1 qZ)) hB [49,48,47,6,5,4,3,2] [106,104,103,102,101,53,52,51,50,0] rfl rfl ?_
  clear hS;intro a w F hS
  refine block_n (then_n ?_)
  refine region_z hS (qf (o_add .t qi) r1 qz (qM rfl rfl qZ)) hB [49,48,47,6,5,4,3,2] [106,104,103,102,101,53,52,51,50,0] rfl rfl ?_
  clear hS;intro a w F hS
  refine then_n ?_
  replace hS:=hS.ent (i:=49) (s':=.pv (.int .i64 ((i+1:Nat):Int))) rfl (.int (wrap_succ (by omega)))
  obtain ⟨F,hS⟩:=hS.nm [48,47,6,5,4,3,2,49] [103,102,101,51,50,0,53,52,104] rfl rfl
  exact ⟨((i+1),_,_,_,_),F,⟨by omega,hst9⟩,hS,by omega⟩
 have hil:i=(keysK OrdD.key d.old d.new e.old e.new).length:=by simp at hc3;omega
 have hkO2:joinK OrdD.key d.old d.new e.old e.new=some (ol,ml):=by unfold joinK;rw [← hq,hil,List.take_length]
 have hg:joinD d e=(⟨wl,nl,ol,ml⟩,0):=by unfold joinD;rw [if_pos hr,hkT2,hkO2]
 refine wp_exit (then_x (then_x (block_x (then_n (wp_seq ?_)))))
 refine region_z hS (qf (oL true 4 104 .is) r1 r1 (qf (oA 4 103 .is .t) r2 r1 (qf (oN qi) trivial qz qZ))) hB [5,4] [104,103,102,101,53,52,51,50,0] rfl rfl ?_
 clear hS;intro a w F hS
 refine then_n (wp_ret ?_)
 obtain ⟨F,hS⟩:=hS.giveCell 50 103 0 rfl rfl rfl rfl rfl
 try dsimp only [List.set] at hS
 obtain ⟨F,hS⟩:=hS.giveCell 51 103 1 rfl rfl rfl rfl rfl
 try dsimp only [List.set] at hS
 obtain ⟨F,hS⟩:=hS.giveCell 52 103 2 rfl rfl rfl rfl rfl
 try dsimp only [List.set] at hS
 obtain ⟨F,hS⟩:=hS.giveCell 53 103 3 rfl rfl rfl rfl rfl
 try dsimp only [List.set] at hS
 refine ret_P hfr hS rfl (.cell (n:=103) (ag:=true) (sz:=4) rfl .is rfl (by kernel_rfl) (by kernel_rfl) (by kernel_rfl) (.tmp rfl .nil)) (.two (by rw [hg];exact .aggU rfl rfl) (.int (by rw [hg])))
end Go.Proofs.YtcfgcpcakdknkaaGreat
