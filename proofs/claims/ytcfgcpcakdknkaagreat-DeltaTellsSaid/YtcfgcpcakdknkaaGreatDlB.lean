/- slices.Concat at orders. No condition beyond those that each theorem says. -/
import Derived.Test.YtcfgcpcakdknkaaGreatEdX
import Derived.Test.YtcfgcpcakdknkaaGreatHi0
import Derived.Test.YtcfgcpcakdknkaaGreatOr1
import Derived.Test.YtcfgcpcakdknkaaGreatLibE
namespace Go.Proofs.YtcfgcpcakdknkaaGreat
open Go Go.Gm
set_option linter.unusedVariables false
set_option linter.unusedSimpArgs false
set_option maxHeartbeats 4000000
set_option maxRecDepth 8000
def rSlO (l:List OrdD):List PV:=[.sl rOrd l]
theorem growR_c (n:Nat) (hn:n≤1000000):FnG Tryz.prog 121 1 [.is (.slice none 0 0),.int .i64 n] [.star []] (PV.one) (fun v=>[rowH 37 2 rOrd [] v]):=by
 refine FnG.mk Tryz.func121 rfl Tryz.ntmps121 rfl (by kernel_rfl) ?_
 intro B F0 a w F hB hG hS
 obtain ⟨F,hS⟩:=hS.nm [1,0] [0] rfl rfl
 replace hS:=hS.fresh 50 rfl
 replace hS:=hS.turn 50 rfl (nilRow (T:=37) (sz:=2) (R:=rOrd))
 refine wp_seq ?_
 refine region_z hS (qf (oN (.c rfl)) trivial qz qZ) hB [4,1,0] [50,0] rfl rfl ?_
 clear hS;intro a w F hS
 refine then_n (wp_seq (wp_seq ?_))
 refine region_z hS (qM rfl rfl (qf (o_lss .t qi) r1 qz qZ)) hB [6,4,1,0] [50,0] rfl rfl ?_
 clear hS;intro a w F hS
 refine then_n ?_
 refine cond_b hS rfl (fun hc0=>?_) (fun hc0=>?_)
 ·skip
  simp at hc0
  omega
 have hw0:IntKind.wrap .i64 ((n:Int) - IntKind.wrap .i64 ((0:Int) - (([]:List OrdD).length:Int)))=(n:Int):=by rw [show (([]:List OrdD).length:Int)=0 from rfl,show IntKind.wrap .i64 ((0:Int) - 0)=0 from rfl,wrap_i64 (by omega)];omega
 refine wp_skip (then_n (wp_seq (wp_seq ?_)))
 refine region_z hS (qM rfl rfl (qM rfl rfl (qf (o_cap_nil Tryz.underlying28 .t) r1 qz (qM rfl rfl (qf (o_len_row 50 Tryz.underlying28 .is) r1 r1 (qf (o_sub .t .t) r2 qz (qf (o_sub .t .t) r2 qz (qN rfl rfl qZ)))))))) hB [4,1,0] [50,0] rfl rfl ?_
 clear hS;intro a w F hS
 refine then_n (wp_seq ?_)
 refine region_z hS (qM rfl rfl (qf (o_gtr .t qi) r1 qz qZ)) hB [16,4,1,0] [50,0] rfl rfl ?_
 clear hS;intro a w F hS
 refine then_n ?_
 refine cond_b hS rfl (fun hc1=>?_) (fun hc1=>?_)
 ·skip
  have hn0:0<n:=by have h9:=hc1;rw [hw0] at h9;simp at h9;omega
  have hcp:capV (.slice none 0 0)=0:=rfl
  refine region_q hS (qM rfl rfl (qM rfl rfl (qf (o_cap_nil Tryz.underlying28 .t) r1 qz (qf (o_head_row (sz:=2) 50 (.mk Tryz.underlying28 (by kernel_rfl)) .is .t (by decide) (by decide)) r2 r1 (qM rfl rfl (qf (o_append_zeros (R:=rOrd) (z:=(⟨0,[]⟩:OrdD)) (bs:=32) (sz:=2) (zs:=[.int .i64 0,.slice none 0 0]) 50 101 Tryz.underlying28 Tryz.underlying3 (by kernel_rfl) (by kernel_rfl) (by kernel_rfl) (by intro x;rfl) (fun _ _=>⟨⟨rfl,rfl,inR0⟩,⟨rfl,sl_nil⟩,trivial⟩) .t .t (by decide) (by rw [hw0,hcp];omega) (by rw [hw0];omega) (by rw [hw0];omega) (by rw [hw0];omega)) ⟨rfl,rfl,trivial⟩ ⟨rfl,trivial⟩ (qM rfl rfl (qf (o_len_row 50 Tryz.underlying28 .is) r1 r1 (qf (o_cut_row (sz:=2) 101 (.mk Tryz.underlying28 (by kernel_rfl)) (by intro x;rfl) .same .t (by decide) (Int.natCast_nonneg _)) r2 r1 (qN rfl rfl qZ)))))))))) hB ?_
  clear hS;intro a w F hS
  replace hS:=hS.sub
  obtain ⟨F,hS⟩:=hS.nm [4,0] [101,50,0] rfl rfl
  try dsimp only [RS.sub,SF.sub,CF.sub,csub,Anc.sub,List.map,xC,xN,rHist,rTx,rOrd,rVer,rInt,rOp] at hS
  generalize Act.tau a 25=v25 at hS
  refine then_n (wp_seq ?_)
  refine region_z hS (qM rfl rfl (qN rfl rfl qZ)) hB [4] [101,50,0] rfl rfl ?_
  clear hS;intro a w F hS
  refine then_n (wp_ret ?_)
  obtain ⟨F,hS⟩:=hS.rename 101 1 rfl rfl
  have hS:=hS.turn 1 rfl (r':=RS.hp (rowH 37 2 rOrd [] v25)) (fun _ _ _ _ h=>h)
  refine ret_N1 (h':=fun v=>rowH 37 2 rOrd [] v) hG hS rfl (.tmp rfl .nil) (.one .one) rfl
 refine wp_skip (then_n (wp_seq ?_))
 refine region_z hS (qM rfl rfl (qN rfl rfl qZ)) hB [4] [50,0] rfl rfl ?_
 clear hS;intro a w F hS
 refine then_n (wp_ret ?_)
 obtain ⟨F,hS⟩:=hS.rename 50 1 rfl rfl
 have hS:=hS.turn 1 rfl (r':=RS.hp (rowH 37 2 rOrd [] (.slice none 0 0))) (fun _ _ _ _ h=>h)
 refine ret_N1 (h':=fun v=>rowH 37 2 rOrd [] v) hG hS rfl (.tmp rfl .nil) (.one .one) rfl
theorem concR_c (ll:List (List OrdD)) (hl:ll.flatten.length≤1000000) (hl2:ll.length≤1000000):FnP Tryz.prog 81 [.sl rSlO ll] (.sl rOrd ll.flatten):=by
 refine FnP.mk Tryz.func81 rfl Tryz.ntmps81 rfl ?_
 intro B a w F hB hfr hS
 refine wp_seq ?_
 refine region_z hS (qf (oN (.c rfl)) trivial qz qZ) hB [2,0] [0] rfl rfl ?_
 clear hS;intro a w F hS
 refine then_n (wp_seq ?_)
 refine region_z hS (qf (oN qi) trivial qz qZ) hB [3,2,0] [0] rfl rfl ?_
 clear hS;intro a w F hS
 refine then_n (wp_seq (wp_seq ?_))
 refine region_z hS (qM rfl rfl (qf (o_len_sl Tryz.underlying144 .t) r1 qz (qf (oM qi) trivial qz qZ))) hB [11,10,9,3,2,0] [0] rfl rfl ?_
 clear hS;intro a w F hS
 refine then_n (wp_block ?_)
 refine loop_keep (σ:=(Nat)) [0,2,9,10] [0] (fun s=>[(11,.pv (.int .i64 (s:Int))),(3,.pv (.int .i64 (((ll.take s).flatten.length:Nat):Int)))]) (fun s=>[]) (fun s=>s≤ll.length∧(True)) (fun s=>ll.length - s) (0) hS ⟨rfl,rfl,rfl,rfl,rfl,rfl,trivial⟩ ⟨rfl,trivial⟩ ⟨Nat.zero_le _,trivial⟩ ?_
 clear hS;intro i a w F hC hS
 try dsimp only at hC
 obtain ⟨F,hS⟩:=hS.nm [11,10,9,3,2,0] [0] rfl rfl
 try dsimp only at hS
 obtain ⟨hi,hq⟩:=hC
 have hfl:(ll.take i).flatten.length≤ll.flatten.length:=by rw [← List.take_append_drop i ll,List.flatten_append,List.length_append];simp
 refine wp_seq ?_
 refine region_z hS (qf (o_lss .t .t) r2 qz qZ) hB [12,11,10,9,3,2,0] [0] rfl rfl ?_
 clear hS;intro a w F hS
 refine then_n (wp_seq ?_)
 refine cond_b hS rfl (fun hc0=>?_) (fun hc0=>?_)
 ·skip
  have hil:i<ll.length:=by simp at hc0;omega
  have hst:(ll.take (i+1)).flatten.length=(ll.take i).flatten.length+(Go.Gm.nth ll i).length:=by rw [take_nth hil,List.flatten_append,List.length_append];simp
  have hfl2:(ll.take (i+1)).flatten.length≤ll.flatten.length:=by rw [← List.take_append_drop (i+1) ll,List.flatten_append,List.length_append];simp
  have hsum:IntKind.wrap .i64 ((((ll.take i).flatten.length:Nat):Int)+((Go.Gm.nth ll i).length:Int))=(((ll.take (i+1)).flatten.length:Nat):Int):=by rw [wrap_i64 (by omega)];omega
  refine wp_skip (then_n (wp_seq (wp_block (wp_seq ?_))))
  refine region_z hS (qf (o_indexAddr_sl (sz:=1) (.mk Tryz.underlying144 (by kernel_rfl)) (by intro x;rfl) .t .t (by omega) (by omega)) r2 qz (qf (oR false 1 .t) r1 qz (qN rfl rfl qZ))) hB [14,13,12,11,10,9,5,3,2,0] [0] rfl rfl ?_
  clear hS;intro a w F hS
  try simp only [Int.toNat_natCast] at hS
  refine then_n (wp_seq ?_)
  refine region_z hS (qM rfl rfl (qM rfl rfl (qf (o_len_sl Tryz.underlying28 .t) r1 qz (qf (o_add .t .t) r2 qz (qN rfl rfl qZ))))) hB [18,17,16,15,14,13,12,11,10,9,5,3,2,0] [0] rfl rfl ?_
  clear hS;intro a w F hS
  refine then_n (wp_seq ?_)
  refine region_z hS (qM rfl rfl (qf (o_lss .t qi) r1 qz qZ)) hB [20,19,18,17,16,15,14,13,12,11,10,9,5,3,2,0] [0] rfl rfl ?_
  clear hS;intro a w F hS
  refine then_n ?_
  refine cond_b hS rfl (fun hc1=>?_) (fun hc1=>?_)
  ·skip
   have h9:=hc1
   rw [hsum] at h9
   simp at h9
   omega
  refine wp_skip (block_n (then_n ?_))
  refine region_z hS (qf (o_add .t qi) r1 qz (qM rfl rfl qZ)) hB [22,20,19,18,17,16,15,14,13,12,11,10,9,5,3,2,0] [0] rfl rfl ?_
  clear hS;intro a w F hS
  refine then_n ?_
  replace hS:=hS.ent (i:=11) (s':=.pv (.int .i64 ((i+1:Nat):Int))) rfl (.int (wrap_succ (by omega)))
  replace hS:=hS.ent (i:=3) (s':=.pv (.int .i64 (((ll.take (i+1)).flatten.length:Nat):Int))) rfl (.int hsum)
  obtain ⟨F,hS⟩:=hS.nm [10,9,2,0,3,11] [0] rfl rfl
  exact ⟨(i+1),F,⟨by omega,trivial⟩,hS,by omega⟩
 have hil:i=ll.length:=by simp at hc0;omega
 rw [hil,List.take_length] at hS
 refine wp_exit (then_x (then_x (block_x (then_n (wp_seq ?_)))))
 replace hS:=hS.fresh 101 rfl
 refine region_q hS (qM rfl rfl (qf (o_callN 101 (growR_c ll.flatten.length hl) Tryz.func121 rfl (by kernel_rfl) (Args.two (.c rfl) .t) pvOne1) r1 r1 (qN rfl rfl qZ))) hB ?_
 clear hS;intro a w F hS
 replace hS:=hS.sub
 obtain ⟨F,hS⟩:=hS.nm [6,2,0] [101,0] rfl rfl
 try dsimp only [RS.sub,SF.sub,CF.sub,csub,Anc.sub,List.map,rHist,rTx,rOrd,rVer,rInt,rOp,rSlO] at hS
 generalize Act.tau a 24=v24 at hS
 refine then_n (wp_seq (wp_seq ?_))
 refine region_z hS (qM rfl rfl (qf (o_len_sl Tryz.underlying144 .t) r1 qz (qf (oM qi) trivial qz qZ))) hB [27,26,25,6,2] [101,0] rfl rfl ?_
 clear hS;intro a w F hS
 refine then_n (wp_block ?_)
 refine loop_keep (σ:=(Nat)×(Value)×(List OrdD)) [2,25,26] [0] (fun s=>[(27,.pv (.int .i64 (s.1:Int))),(6,.pv (.is s.2.1))]) (fun s=>[(101,.ob (.val s.2.1) (rowH 37 2 rOrd s.2.2))]) (fun s=>s.1≤ll.length∧(s.2.2=(ll.take s.1).flatten)) (fun s=>ll.length - s.1) ((0),(v24),([])) hS ⟨rfl,rfl,rfl,rfl,rfl,trivial⟩ ⟨rfl,rfl,trivial⟩ ⟨Nat.zero_le _,rfl⟩ ?_
 clear hS;intro s a w F hC hS
 obtain ⟨i,v,out⟩:=s
 try dsimp only at hC
 obtain ⟨F,hS⟩:=hS.nm [27,26,25,6,2] [101,0] rfl rfl
 try dsimp only at hS
 obtain ⟨hi,hq⟩:=hC
 have hfl:(ll.take i).flatten.length≤ll.flatten.length:=by rw [← List.take_append_drop i ll,List.flatten_append,List.length_append];simp
 have hfl2:(ll.take (i+1)).flatten.length≤ll.flatten.length:=by rw [← List.take_append_drop (i+1) ll,List.flatten_append,List.length_append];simp
 refine wp_seq ?_
 refine region_z hS (qf (o_lss .t .t) r2 qz qZ) hB [28,27,26,25,6,2] [101,0] rfl rfl ?_
 clear hS;intro a w F hS
 refine then_n (wp_seq ?_)
 refine cond_b hS rfl (fun hc2=>?_) (fun hc2=>?_)
 ·skip
  have hil:i<ll.length:=by simp at hc2;omega
  have hst:(ll.take (i+1)).flatten.length=(ll.take i).flatten.length+(Go.Gm.nth ll i).length:=by rw [take_nth hil,List.flatten_append,List.length_append];simp
  refine wp_skip (then_n (wp_seq (wp_block (wp_seq ?_))))
  refine region_z hS (qf (o_indexAddr_sl (sz:=1) (.mk Tryz.underlying144 (by kernel_rfl)) (by intro x;rfl) .t .t (by omega) (by omega)) r2 qz (qf (oR false 1 .t) r1 qz (qN rfl rfl qZ))) hB [30,29,28,27,26,25,8,6,2] [101,0] rfl rfl ?_
  clear hS;intro a w F hS
  try simp only [Int.toNat_natCast] at hS
  refine then_n ?_
  refine region_q hS (qM rfl rfl (qM rfl rfl (qf (o_append (sz:=2) (bs:=32) 101 (.mk' Tryz.underlying28 (by kernel_rfl) (by kernel_rfl)) (by intro x;rfl) .is (.sl .t) (by rw [hq,← hst];omega) (by decide)) ⟨rfl,rfl,trivial⟩ ⟨rfl,trivial⟩ (qN rfl rfl qZ)))) hB ?_
  clear hS;intro a w F hS
  replace hS:=hS.sub
  obtain ⟨F,hS⟩:=hS.nm [33,32,31,30,29,28,27,26,25,8,6,2] [101,0] rfl rfl
  try dsimp only [RS.sub,SF.sub,CF.sub,csub,Anc.sub,List.map,xC,xN,rHist,rTx,rOrd,rVer,rInt,rOp,rSlO] at hS
  generalize Act.tau a 33=v33 at hS
  refine block_n (then_n ?_)
  refine region_z hS (qf (o_add .t qi) r1 qz (qM rfl rfl qZ)) hB [34,33,32,31,30,29,28,27,26,25,8,6,2] [101,0] rfl rfl ?_
  clear hS;intro a w F hS
  refine then_n ?_
  replace hS:=hS.ent (i:=27) (s':=.pv (.int .i64 ((i+1:Nat):Int))) rfl (.int (wrap_succ (by omega)))
  obtain ⟨F,hS⟩:=hS.nm [26,25,2,6,27] [0,101] rfl rfl
  exact ⟨((i+1),_,_),F,⟨by omega,(by rw [take_nth hil,List.flatten_append,← hq];simp)⟩,hS,by omega⟩
 have hil:i=ll.length:=by simp at hc2;omega
 have hg:out=ll.flatten:=by rw [hq,hil,List.take_length]
 refine wp_exit (then_x (then_x (block_x (then_n (wp_seq ?_)))))
 refine region_z hS (qM rfl rfl (qN rfl rfl qZ)) hB [2] [101,0] rfl rfl ?_
 clear hS;intro a w F hS
 refine then_n (wp_ret ?_)
 obtain ⟨F,hS⟩:=hS.give 101 2 rfl rfl
 refine ret_P hfr hS rfl (.tmp rfl .nil) (.one (.sl (by rw [hg])))
end Go.Proofs.YtcfgcpcakdknkaaGreat
