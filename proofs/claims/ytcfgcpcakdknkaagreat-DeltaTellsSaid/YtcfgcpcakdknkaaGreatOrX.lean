/- Or3,Or4,Or5,Or6,in one text. -/
import Derived.Test.YtcfgcpcakdknkaaGreatOr2
import Derived.Test.YtcfgcpcakdknkaaGreatLibP
namespace Go.Proofs.YtcfgcpcakdknkaaGreat
open Go Go.Gm
set_option linter.unusedVariables false
set_option linter.unusedSimpArgs false
set_option maxHeartbeats 4000000
set_option maxRecDepth 8000
end Go.Proofs.YtcfgcpcakdknkaaGreat
namespace Go.Proofs.YtcfgcpcakdknkaaGreat
open Go Go.Gm
set_option linter.unusedVariables false
set_option linter.unusedSimpArgs false
set_option maxHeartbeats 4000000
set_option maxRecDepth 8000
theorem count11_c (l:List Int) (v:Int):FnP Tryz.prog 133 [.sl rInt l,.int .i64 v] (.int .i64 ((l.count v:Nat):Int)):=by
 refine FnP.mk Tryz.func133 rfl Tryz.ntmps133 rfl ?_
 intro B a w F hB hfr hS
 have hll:=Sat.lenSl hS (i:=0) rfl
 refine wp_seq ?_
 refine region_z hS (qf (oN qi) trivial qz qZ) hB [4,1,0] [0] rfl rfl ?_
 clear hS;intro a w F hS
 refine then_n (wp_seq ?_)
 refine region_z hS (qf (oN qi) trivial qz qZ) hB [5,4,1,0] [0] rfl rfl ?_
 clear hS;intro a w F hS
 refine then_n (wp_seq (wp_seq ?_))
 refine region_z hS (qM rfl rfl (qf (o_len_sl Tryz.underlying35 .t) r1 qz (qf (oM qi) trivial qz qZ))) hB [10,9,8,5,4,1] [0] rfl rfl ?_
 clear hS;intro a w F hS
 refine then_n (wp_block ?_)
 refine loop_keep (σ:=(Nat)) [1,4,8,9] [0] (fun s=>[(10,.pv (.int .i64 (s:Int))),(5,.pv (.int .i64 (((l.take s).count v:Nat):Int)))]) (fun s=>[]) (fun s=>s≤l.length∧(True)) (fun s=>l.length - s) (0) hS ⟨rfl,rfl,rfl,rfl,rfl,rfl,trivial⟩ ⟨rfl,trivial⟩ ⟨Nat.zero_le _,trivial⟩ ?_
 clear hS;intro i a w F hC hS
 try dsimp only at hC
 obtain ⟨F,hS⟩:=hS.nm [10,9,8,5,4,1] [0] rfl rfl
 try dsimp only at hS
 obtain ⟨hi,hq⟩:=hC
 refine wp_seq ?_
 refine region_z hS (qf (o_lss .t .t) r2 qz qZ) hB [11,10,9,8,5,4,1] [0] rfl rfl ?_
 clear hS;intro a w F hS
 refine then_n (wp_seq ?_)
 refine cond_b hS rfl (fun hc0=>?_) (fun hc0=>?_)
 ·skip
  have hil:i<l.length:=by simp at hc0;omega
  refine wp_skip (then_n (wp_seq (wp_block (wp_seq ?_))))
  refine region_z hS (qf (o_indexAddr_sl (sz:=1) (.mk Tryz.underlying35 (by kernel_rfl)) (by intro x;rfl) .t .t (by omega) (by omega)) r2 qz (qf (oR false 1 .t) r1 qz (qN rfl rfl qZ))) hB [13,12,11,10,9,8,7,5,4,1] [0] rfl rfl ?_
  clear hS;intro a w F hS
  try simp only [Int.toNat_natCast] at hS
  refine then_n (wp_seq ?_)
  refine region_z hS (qM rfl rfl (qM rfl rfl (qf (o_eql .t .t) r2 qz qZ))) hB [16,15,14,13,12,11,10,9,8,7,5,4,1] [0] rfl rfl ?_
  clear hS;intro a w F hS
  refine then_n ?_
  refine cond_b hS rfl (fun hc1=>?_) (fun hc1=>?_)
  ·skip
   have hcl:(l.take i).count v≤(l.take i).length:=List.count_le_length
   have hcl2:(l.take i).length≤i:=by rw [List.length_take];omega
   have hcc:IntKind.wrap .i64 ((((l.take i).count v:Nat):Int)+1)=(((l.take (i+1)).count v:Nat):Int):=by
     have e:v=Go.Gm.nth l i:=by simpa using hc1
     rw [wrap_i64 (by omega),take_nth hil,List.count_append,← e];simp
   refine region_z hS (qM rfl rfl (qf (o_add .t qi) r1 qz (qN rfl rfl qZ))) hB [18,17,16,15,14,13,12,11,10,9,8,7,5,4,1] [0] rfl rfl ?_
   clear hS;intro a w F hS
   refine block_n (then_n ?_)
   refine region_z hS (qf (o_add .t qi) r1 qz (qM rfl rfl qZ)) hB [19,18,17,16,15,14,13,12,11,10,9,8,7,5,4,1] [0] rfl rfl ?_
   clear hS;intro a w F hS
   refine then_n ?_
   replace hS:=hS.ent (i:=10) (s':=.pv (.int .i64 ((i+1:Nat):Int))) rfl (.int (wrap_succ (by omega)))
   replace hS:=hS.ent (i:=5) (s':=.pv (.int .i64 (((l.take (i+1)).count v:Nat):Int))) rfl (.int hcc)
   obtain ⟨F,hS⟩:=hS.nm [9,8,4,1,5,10] [0] rfl rfl
   exact ⟨(i+1),F,⟨by omega,trivial⟩,hS,by omega⟩
  have hcc:(((l.take i).count v:Nat):Int)=(((l.take (i+1)).count v:Nat):Int):=by
    have e:¬ v=Go.Gm.nth l i:=by simpa using hc1
    have e2:¬ Go.Gm.nth l i=v:=fun h=>e h.symm
    rw [take_nth hil,List.count_append,List.count_singleton];simp [e2]
  refine wp_skip (block_n (then_n ?_))
  refine region_z hS (qf (o_add .t qi) r1 qz (qM rfl rfl qZ)) hB [19,16,15,14,13,12,11,10,9,8,7,5,4,1] [0] rfl rfl ?_
  clear hS;intro a w F hS
  refine then_n ?_
  replace hS:=hS.ent (i:=10) (s':=.pv (.int .i64 ((i+1:Nat):Int))) rfl (.int (wrap_succ (by omega)))
  replace hS:=hS.ent (i:=5) (s':=.pv (.int .i64 (((l.take (i+1)).count v:Nat):Int))) rfl (.int hcc)
  obtain ⟨F,hS⟩:=hS.nm [9,8,4,1,5,10] [0] rfl rfl
  exact ⟨(i+1),F,⟨by omega,trivial⟩,hS,by omega⟩
 have hil:i=l.length:=by simp at hc0;omega
 refine wp_exit (then_x (then_x (block_x (then_n (wp_seq ?_)))))
 refine region_z hS (qM rfl rfl (qN rfl rfl qZ)) hB [4] [0] rfl rfl ?_
 clear hS;intro a w F hS
 refine then_n (wp_ret ?_)
 refine ret_P hfr hS rfl (.tmp rfl .nil) (.one (.int (by rw [hil,List.take_length])))
theorem perm11_c (x y:List Int):FnP Tryz.prog 94 [.sl rInt x,.sl rInt y] (.bool (decide (x.Perm y))):=by
 refine FnP.mk Tryz.func94 rfl Tryz.ntmps94 rfl ?_
 intro B a w F hB hfr hS
 have hxl:=Sat.lenSl hS (i:=0) rfl
 have hyl:=Sat.lenSl hS (i:=1) rfl
 refine wp_seq ?_
 refine region_z hS (qf (oN .cb) trivial qz qZ) hB [4,1,0] [0] rfl rfl ?_
 clear hS;intro a w F hS
 refine then_n (wp_seq (wp_seq ?_))
 refine region_z hS (qM rfl rfl (qf (o_len_sl Tryz.underlying35 .t) r1 qz (qM rfl rfl (qf (o_len_sl Tryz.underlying35 .t) r1 qz (qf (o_neq .t .t) r2 qz qZ))))) hB [11,4,1,0] [0] rfl rfl ?_
 clear hS;intro a w F hS
 refine then_n ?_
 refine cond_b hS rfl (fun hc0=>?_) (fun hc0=>?_)
 ·skip
  have hg:false=decide (x.Perm y):=(decide_eq_false fun hp=>by have:=hp.length_eq;simp at hc0;omega).symm
  refine wp_seq ?_
  refine region_z hS (qf (oN .cb) trivial qz qZ) hB [4,1,0] [0] rfl rfl ?_
  clear hS;intro a w F hS
  refine then_n (wp_ret (then_r ?_))
  refine ret_P hfr hS rfl (.tmp rfl .nil) (.one (.bool hg))
 have hxy:x.length=y.length:=by simp at hc0;omega
 refine wp_skip (then_n (wp_seq (wp_seq ?_)))
 refine region_z hS (qM rfl rfl (qf (o_len_sl Tryz.underlying35 .t) r1 qz (qf (oM qi) trivial qz qZ))) hB [14,13,12,4,1,0] [0] rfl rfl ?_
 clear hS;intro a w F hS
 refine then_n (wp_block ?_)
 refine loop_keep (σ:=(Nat)) [0,1,4,12,13] [0] (fun s=>[(14,.pv (.int .i64 (s:Int)))]) (fun s=>[]) (fun s=>s≤x.length∧(∀ k,k<s→x.count (Go.Gm.nth x k)=y.count (Go.Gm.nth x k))) (fun s=>x.length - s) (0) hS ⟨rfl,rfl,rfl,rfl,rfl,rfl,trivial⟩ ⟨rfl,trivial⟩ ⟨Nat.zero_le _,fun k hk=>absurd hk (Nat.not_lt_zero k)⟩ ?_
 clear hS;intro i a w F hC hS
 try dsimp only at hC
 obtain ⟨F,hS⟩:=hS.nm [14,13,12,4,1,0] [0] rfl rfl
 try dsimp only at hS
 obtain ⟨hi,hq⟩:=hC
 refine wp_seq ?_
 refine region_z hS (qf (o_lss .t .t) r2 qz qZ) hB [15,14,13,12,4,1,0] [0] rfl rfl ?_
 clear hS;intro a w F hS
 refine then_n (wp_seq ?_)
 refine cond_b hS rfl (fun hc1=>?_) (fun hc1=>?_)
 ·skip
  have hil:i<x.length:=by simp at hc1;omega
  refine wp_skip (then_n (wp_seq (wp_block (wp_seq ?_))))
  refine region_z hS (qf (o_indexAddr_sl (sz:=1) (.mk Tryz.underlying35 (by kernel_rfl)) (by intro x;rfl) .t .t (by omega) (by omega)) r2 qz (qf (oR false 1 .t) r1 qz (qN rfl rfl qZ))) hB [17,16,15,14,13,12,6,4,1,0] [0] rfl rfl ?_
  clear hS;intro a w F hS
  try simp only [Int.toNat_natCast] at hS
  refine then_n (wp_seq ?_)
  refine region_z hS (qM rfl rfl (qM rfl rfl (qf (oP (count11_c x (Go.Gm.nth x i)) Tryz.func133 (Args.two .t .t)) r2 qz (qM rfl rfl (qM rfl rfl (qf (oP (count11_c y (Go.Gm.nth x i)) Tryz.func133 (Args.two .t .t)) r2 qz (qf (o_neq .t .t) r2 qz qZ))))))) hB [24,23,22,21,20,19,18,17,16,15,14,13,12,6,4,1,0] [0] rfl rfl ?_
  clear hS;intro a w F hS
  refine then_n ?_
  refine cond_b hS rfl (fun hc2=>?_) (fun hc2=>?_)
  ·skip
   have hg:false=decide (x.Perm y):=(decide_eq_false fun hp=>by have:=hp.count_eq (Go.Gm.nth x i);simp at hc2;omega).symm
   refine wp_seq ?_
   refine region_z hS (qf (oN .cb) trivial qz qZ) hB [24,23,22,21,20,19,18,17,16,15,14,13,12,6,4,1,0] [0] rfl rfl ?_
   clear hS;intro a w F hS
   refine then_n (wp_ret (block_r (then_r (then_r (block_r (then_r ?_))))))
   refine ret_P hfr hS rfl (.tmp rfl .nil) (.one (.bool hg))
  have hne:x.count (Go.Gm.nth x i)=y.count (Go.Gm.nth x i):=by simp at hc2;omega
  refine wp_skip (block_n (then_n ?_))
  refine region_z hS (qf (o_add .t qi) r1 qz (qM rfl rfl qZ)) hB [25,24,23,22,21,20,19,18,17,16,15,14,13,12,6,4,1,0] [0] rfl rfl ?_
  clear hS;intro a w F hS
  refine then_n ?_
  replace hS:=hS.ent (i:=14) (s':=.pv (.int .i64 ((i+1:Nat):Int))) rfl (.int (wrap_succ (by omega)))
  obtain ⟨F,hS⟩:=hS.nm [13,12,4,1,0,14] [0] rfl rfl
  exact ⟨(i+1),F,⟨by omega,(fun k hk=>by rcases Nat.lt_or_eq_of_le (Nat.le_of_lt_succ hk) with h | h;exact hq k h;rw [h];exact hne)⟩,hS,by omega⟩
 have hil:i=x.length:=by simp at hc1;omega
 have hg:true=decide (x.Perm y):=(decide_eq_true (perm_counts.1 ⟨hxy,fun v hv=>by obtain ⟨k,hk,rfl⟩:=List.getElem_of_mem hv;rw [← nth_eq hk];exact hq k (by simp at hc1;omega)⟩)).symm
 refine wp_exit (then_x (then_x (block_x (then_n (wp_seq ?_)))))
 refine region_z hS (qf (oN .cb) trivial qz qZ) hB [4] [0] rfl rfl ?_
 clear hS;intro a w F hS
 refine then_n (wp_ret ?_)
 refine ret_P hfr hS rfl (.tmp rfl .nil) (.one (.bool hg))
end Go.Proofs.YtcfgcpcakdknkaaGreat
namespace Go.Proofs.YtcfgcpcakdknkaaGreat
open Go Go.Gm
set_option linter.unusedVariables false
set_option linter.unusedSimpArgs false
set_option maxHeartbeats 4000000
set_option maxRecDepth 8000
end Go.Proofs.YtcfgcpcakdknkaaGreat
namespace Go.Proofs.YtcfgcpcakdknkaaGreat
open Go Go.Gm
set_option linter.unusedVariables false
set_option linter.unusedSimpArgs false
set_option maxHeartbeats 4000000
set_option maxRecDepth 8000
theorem moveO_len (l:List Int) (tx place:Int):(moveO l tx place).1.length≤l.length:=by
 unfold moveO
 split
 · simp
 · split
   · simp
   · rename_i h1 h2
     have hr:=idxL_range tx l
     have h3:(l.eraseIdx (idxL tx l).toNat).length=l.length - 1:=by rw [List.length_eraseIdx,if_pos (by omega)]
     show (insL _ _ _).length≤_
     unfold insL
     split
     · rw [List.length_append,List.length_cons,List.length_take,List.length_drop];omega
     · omega
end Go.Proofs.YtcfgcpcakdknkaaGreat
