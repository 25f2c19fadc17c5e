/- Dm0,Dm1,Dm2,Dm3,Dm4,in one text. -/
import Derived.Test.YtcfgcpcakdknkaaGreatDl0
import Derived.Test.YtcfgcpcakdknkaaGreatEdX
import Derived.Test.YtcfgcpcakdknkaaGreatDl4
import Derived.Test.YtcfgcpcakdknkaaGreatDlX
import Derived.Test.YtcfgcpcakdknkaaGreatDl1
import Derived.Test.YtcfgcpcakdknkaaGreatLibE
import Derived.Test.YtcfgcpcakdknkaaGreatDl9
import Derived.Test.YtcfgcpcakdknkaaGreatHiX
namespace Go.Proofs.YtcfgcpcakdknkaaGreat
open Go Go.Gm
set_option linter.unusedVariables false
set_option linter.unusedSimpArgs false
set_option maxHeartbeats 4000000
set_option maxRecDepth 8000
section
variable {α:Type} {κ:α→Int}
theorem drop_fold:∀ (was l:List α),was.foldl (fun l t=>l.filter fun x=>!decide (κ x=κ t)) l=l.filter fun x=>(seekK κ was (κ x)).isNone
 | [],l=>by
   rw [List.foldl_nil,eq_comm,List.filter_eq_self]
   exact fun x _=>rfl
 | t :: was,l=>by
   rw [List.foldl_cons,drop_fold was,List.filter_filter]
   refine List.filter_congr fun x _=>?_
   unfold seekK
   rw [List.find?_cons]
   by_cases h:κ t=κ x
   · rw [show decide (κ t=κ x)=true by simp [h]];simp [h]
   · rw [show decide (κ t=κ x)=false by simp [h],show decide (κ x=κ t)=false by simp [Ne.symm h]];simp
theorem putGR_perm {t:α} {l:List α} (hs:RiseK κ l) (hk:isK κ (κ t) l=false):(putGR κ t l false).Perm (t :: l):=by
 rw [putGR_new hs hk,List.append_assoc]
 refine List.perm_middle.trans ?_
 show (t :: (l.take _++l.drop _)).Perm _
 rw [List.take_append_drop]
theorem isK_no {k:Int} {l:List α} (h:∀ x ∈ l,κ x≠k):isK κ k l=false:=by
 unfold isK
 rw [List.any_eq_false]
 intro x hx
 simpa using h x hx
theorem put_fold:∀ (now l:List α),RiseK κ l→Unl κ (l++now)→now.foldl (fun l t=>putGR κ t l false) l=sortZ κ (l++now)
 | [],l,h,_=>by rw [List.foldl_nil,List.append_nil];exact sortZ_eq (List.Perm.refl _) h
 | t :: now,l,h,hu=>by
   have hu':=List.pairwise_append.1 hu
   have hn:∀ x ∈ l,κ x≠κ t:=fun x hx=>hu'.2.2 x hx t List.mem_cons_self
   have hp:=putGR_perm h (isK_no hn)
   have hp2:(putGR κ t l false++now).Perm (l++t :: now):=(List.Perm.append_right now hp).trans List.perm_middle.symm
   rw [List.foldl_cons,put_fold now _ (putGR_rise h) (hu.perm hp2.symm)]
   exact sortZ_congr hp2 hu
def dropsK (κ:α→Int) (was l:List α):List α:=was.foldl (fun l t=>l.filter fun x=>!decide (κ x=κ t)) l
def putsK (κ:α→Int) (now l:List α):List α:=now.foldl (fun l t=>putGR κ t l false) l
theorem dropsK_step [Inhabited α] {was l:List α} {i:Nat} (h:i<was.length):dropsK κ (was.take (i+1)) l=(dropsK κ (was.take i) l).filter fun x=>!decide (κ x=κ (Go.Gm.nth was i)):=by
 unfold dropsK
 rw [take_nth h,List.foldl_append];rfl
theorem putsK_step [Inhabited α] {now l:List α} {i:Nat} (h:i<now.length):putsK κ (now.take (i+1)) l=putGR κ (Go.Gm.nth now i) (putsK κ (now.take i) l) false:=by
 unfold putsK
 rw [take_nth h,List.foldl_append];rfl
theorem dropsK_len (was l:List α):(dropsK κ was l).length≤l.length:=by
 unfold dropsK
 rw [drop_fold];exact List.length_filter_le _ _
theorem putsK_len:∀ (now l:List α),(putsK κ now l).length≤l.length+now.length
 | [],l=>by simp [putsK]
 | t :: now,l=>by
   have h1:=putsK_len now (putGR κ t l false)
   have h2:(putGR κ t l false).length≤l.length+1:=putGR_len l false
   show (putsK κ now (putGR κ t l false)).length≤_
   rw [List.length_cons];omega
def docTurn (κ:α→Int) (l was now:List α):List α:=putsK κ now (dropsK κ was l)
theorem docTurn_eq [DecidableEq α] {l was now:List α} (hl:RiseK κ l) (hn:RiseK κ now) (hf:fitsK κ l was now=true):docTurn κ l was now=turnK κ l was now:=by
 unfold docTurn putsK dropsK
 rw [drop_fold,put_fold _ _ (hl.sublist List.filter_sublist) (turn_unl hl.unl hn.unl hf)];rfl
end
end Go.Proofs.YtcfgcpcakdknkaaGreat
namespace Go.Proofs.YtcfgcpcakdknkaaGreat
open Go Go.Gm
set_option linter.unusedVariables false
set_option linter.unusedSimpArgs false
set_option maxHeartbeats 4000000
set_option maxRecDepth 8000
theorem risingT_c (l:List TxD):FnP Tryz.prog 78 [.sl rTx l] (.bool (decide (RiseK TxD.id l))):=by
 refine FnP.mk Tryz.func78 rfl Tryz.ntmps78 rfl ?_
 intro B a w F hB hfr hS
 have hxl:=Sat.lenSl hS (i:=0) rfl
 refine wp_seq ?_
 refine region_z hS (qf (oN .cb) trivial qz qZ) hB [2,0] [0] rfl rfl ?_
 clear hS;intro a w F hS
 refine then_n (wp_seq (wp_seq ?_))
 refine region_z hS (qM rfl rfl (qf (o_len_sl Tryz.underlying27 .t) r1 qz (qf (oM qi) trivial qz qZ))) hB [6,5,2,0] [0] rfl rfl ?_
 clear hS;intro a w F hS
 refine then_n (wp_block ?_)
 refine loop_keep (σ:=(Nat)) [0,2,5] [0] (fun s=>[(6,.pv (.int .i64 (s:Int)))]) (fun s=>[]) (fun s=>s≤l.length∧(∀ q,q+1<s→TxD.id (Go.Gm.nth l q)<TxD.id (Go.Gm.nth l (q+1)))) (fun s=>l.length - s) (0) hS ⟨rfl,rfl,rfl,rfl,trivial⟩ ⟨rfl,trivial⟩ ⟨Nat.zero_le _,(fun q hq=>absurd hq (Nat.not_lt_zero _))⟩ ?_
 clear hS;intro i a w F hC hS
 try dsimp only at hC
 obtain ⟨F,hS⟩:=hS.nm [6,5,2,0] [0] rfl rfl
 try dsimp only at hS
 obtain ⟨hi,hq⟩:=hC
 refine wp_seq ?_
 refine region_z hS (qf (o_lss .t .t) r2 qz qZ) hB [7,6,5,2,0] [0] rfl rfl ?_
 clear hS;intro a w F hS
 refine then_n (wp_seq ?_)
 refine cond_b hS rfl (fun hc0=>?_) (fun hc0=>?_)
 ·skip
  have hil:i<l.length:=by simp at hc0;omega
  refine wp_skip (then_n (wp_seq (wp_block (wp_seq ?_))))
  refine region_z hS (qM rfl rfl (qN rfl rfl qZ)) hB [8,7,6,5,3,2,0] [0] rfl rfl ?_
  clear hS;intro a w F hS
  refine then_n (wp_seq ?_)
  refine region_any (by kernel_rfl) hS (by kernel_rfl) (qM rfl rfl (qf (o_gtr .t qi) r1 qz (qM rfl rfl (qm rfl rfl rfl rfl (qm rfl rfl rfl rfl (qk rfl (fun h=>o_sub (.w h) qi) r2 qz (qk rfl (fun h=>o_indexAddr_sl (sz:=3) (.mk Tryz.underlying27 (by kernel_rfl)) (by intro x;rfl) (.w h) (.w h) (by have h9:=of_decide_eq_true h;rw [wrap_i64 (by omega)];omega) (by have h9:=of_decide_eq_true h;rw [wrap_i64 (by omega)];omega)) r3 qz (qk rfl (fun h=>oG 0 (.w h)) r2 qz (qk rfl (fun h=>oR false 1 (.w h)) r2 qz (qm rfl rfl rfl rfl (qm rfl rfl rfl rfl (qk rfl (fun h=>o_indexAddr_sl (sz:=3) (.mk Tryz.underlying27 (by kernel_rfl)) (by intro x;rfl) (.w h) (.w h) (by omega) (by omega)) r3 qz (qk rfl (fun h=>oG 0 (.w h)) r2 qz (qk rfl (fun h=>oR false 1 (.w h)) r2 qz (qk rfl (fun h=>o_geq (.w h) (.w h)) r3 qz (qf (o_and2 .t .t) r2 qz qZ)))))))))))))))) (by kernel_rfl) (by rw [hB];kernel_rfl) ?_
  clear hS;intro a w F hS
  obtain ⟨F,hS⟩:=hS.nm [24,23,22,21,20,19,18,17,16,15,14,13,12,11,10,9,8,7,6,5,3,2,0] [0] rfl rfl
  try dsimp only [List.map,xD,xE,xT,xU,ldSF,rHist,rTx,rOrd,rVer,rInt,rOp] at hS
  try simp only [Int.toNat_natCast] at hS
  refine then_n ?_
  refine cond_b hS rfl (fun hc1=>?_) (fun hc1=>?_)
  ·skip
   have h9:0<i∧TxD.id (Go.Gm.nth l i)≤TxD.id (Go.Gm.nth l (IntKind.wrap .i64 ((i:Int) - 1)).toNat):=by simpa using hc1
   rw [show IntKind.wrap .i64 ((i:Int) - 1)=((i - 1:Nat):Int) by rw [wrap_i64 (by omega)];omega,Int.toNat_natCast] at h9
   have hg:false=decide (RiseK TxD.id l):=(decide_eq_false fun e=>by have:=rise_nth e (i:=i - 1) (by omega);rw [show i - 1+1=i by omega] at this;omega).symm
   refine wp_seq ?_
   refine region_z hS (qf (oN .cb) trivial qz qZ) hB [24,23,22,21,20,19,18,17,16,15,14,13,12,11,10,9,8,7,6,5,3,2,0] [0] rfl rfl ?_
   clear hS;intro a w F hS
   refine then_n (wp_ret (block_r (then_r (then_r (block_r (then_r ?_))))))
   refine ret_P hfr hS rfl (.tmp rfl .nil) (.one (.bool hg))
  have hne:0<i→TxD.id (Go.Gm.nth l (i - 1))<TxD.id (Go.Gm.nth l i):=fun h0=>by have h9:¬ (0<i∧TxD.id (Go.Gm.nth l i)≤TxD.id (Go.Gm.nth l (IntKind.wrap .i64 ((i:Int) - 1)).toNat)):=(by simpa using hc1);rw [show IntKind.wrap .i64 ((i:Int) - 1)=((i - 1:Nat):Int) by rw [wrap_i64 (by omega)];omega,Int.toNat_natCast] at h9;exact Int.not_le.1 fun e=>h9 ⟨h0,e⟩
  refine wp_skip (block_n (then_n ?_))
  refine region_z hS (qf (o_add .t qi) r1 qz (qM rfl rfl qZ)) hB [25,24,23,22,21,20,19,18,17,16,15,14,13,12,11,10,9,8,7,6,5,3,2,0] [0] rfl rfl ?_
  clear hS;intro a w F hS
  refine then_n ?_
  replace hS:=hS.ent (i:=6) (s':=.pv (.int .i64 ((i+1:Nat):Int))) rfl (.int (wrap_succ (by omega)))
  obtain ⟨F,hS⟩:=hS.nm [5,2,0,6] [0] rfl rfl
  exact ⟨(i+1),F,⟨by omega,(fun q h1=>by rcases Nat.lt_or_eq_of_le (Nat.le_of_lt_succ h1) with h8 | h8;exact hq q h8;have h7:q=i - 1:=(by omega);subst h7;rw [show i - 1+1=i by omega];exact hne (by omega))⟩,hS,by omega⟩
 have hil:i=l.length:=by simp at hc0;omega
 have hg:true=decide (RiseK TxD.id l):=(decide_eq_true (rise_adj fun q h1=>hq q (by omega))).symm
 refine wp_exit (then_x (then_x (block_x (then_n (wp_seq ?_)))))
 refine region_z hS (qf (oN .cb) trivial qz qZ) hB [2] [0] rfl rfl ?_
 clear hS;intro a w F hS
 refine then_n (wp_ret ?_)
 refine ret_P hfr hS rfl (.tmp rfl .nil) (.one (.bool hg))
theorem risingR_c (l:List OrdD):FnP Tryz.prog 79 [.sl rOrd l] (.bool (decide (RiseK OrdD.key l))):=by
 refine FnP.mk Tryz.func79 rfl Tryz.ntmps79 rfl ?_
 intro B a w F hB hfr hS
 have hxl:=Sat.lenSl hS (i:=0) rfl
 refine wp_seq ?_
 refine region_z hS (qf (oN .cb) trivial qz qZ) hB [2,0] [0] rfl rfl ?_
 clear hS;intro a w F hS
 refine then_n (wp_seq (wp_seq ?_))
 refine region_z hS (qM rfl rfl (qf (o_len_sl Tryz.underlying28 .t) r1 qz (qf (oM qi) trivial qz qZ))) hB [6,5,2,0] [0] rfl rfl ?_
 clear hS;intro a w F hS
 refine then_n (wp_block ?_)
 refine loop_keep (σ:=(Nat)) [0,2,5] [0] (fun s=>[(6,.pv (.int .i64 (s:Int)))]) (fun s=>[]) (fun s=>s≤l.length∧(∀ q,q+1<s→OrdD.key (Go.Gm.nth l q)<OrdD.key (Go.Gm.nth l (q+1)))) (fun s=>l.length - s) (0) hS ⟨rfl,rfl,rfl,rfl,trivial⟩ ⟨rfl,trivial⟩ ⟨Nat.zero_le _,(fun q hq=>absurd hq (Nat.not_lt_zero _))⟩ ?_
 clear hS;intro i a w F hC hS
 try dsimp only at hC
 obtain ⟨F,hS⟩:=hS.nm [6,5,2,0] [0] rfl rfl
 try dsimp only at hS
 obtain ⟨hi,hq⟩:=hC
 refine wp_seq ?_
 refine region_z hS (qf (o_lss .t .t) r2 qz qZ) hB [7,6,5,2,0] [0] rfl rfl ?_
 clear hS;intro a w F hS
 refine then_n (wp_seq ?_)
 refine cond_b hS rfl (fun hc0=>?_) (fun hc0=>?_)
 ·skip
  have hil:i<l.length:=by simp at hc0;omega
  refine wp_skip (then_n (wp_seq (wp_block (wp_seq ?_))))
  refine region_z hS (qM rfl rfl (qN rfl rfl qZ)) hB [8,7,6,5,3,2,0] [0] rfl rfl ?_
  clear hS;intro a w F hS
  refine then_n (wp_seq ?_)
  refine region_any (by kernel_rfl) hS (by kernel_rfl) (qM rfl rfl (qf (o_gtr .t qi) r1 qz (qM rfl rfl (qm rfl rfl rfl rfl (qm rfl rfl rfl rfl (qk rfl (fun h=>o_sub (.w h) qi) r2 qz (qk rfl (fun h=>o_indexAddr_sl (sz:=2) (.mk Tryz.underlying28 (by kernel_rfl)) (by intro x;rfl) (.w h) (.w h) (by have h9:=of_decide_eq_true h;rw [wrap_i64 (by omega)];omega) (by have h9:=of_decide_eq_true h;rw [wrap_i64 (by omega)];omega)) r3 qz (qk rfl (fun h=>oG 0 (.w h)) r2 qz (qk rfl (fun h=>oR false 1 (.w h)) r2 qz (qm rfl rfl rfl rfl (qm rfl rfl rfl rfl (qk rfl (fun h=>o_indexAddr_sl (sz:=2) (.mk Tryz.underlying28 (by kernel_rfl)) (by intro x;rfl) (.w h) (.w h) (by omega) (by omega)) r3 qz (qk rfl (fun h=>oG 0 (.w h)) r2 qz (qk rfl (fun h=>oR false 1 (.w h)) r2 qz (qk rfl (fun h=>o_geq (.w h) (.w h)) r3 qz (qf (o_and2 .t .t) r2 qz qZ)))))))))))))))) (by kernel_rfl) (by rw [hB];kernel_rfl) ?_
  clear hS;intro a w F hS
  obtain ⟨F,hS⟩:=hS.nm [24,23,22,21,20,19,18,17,16,15,14,13,12,11,10,9,8,7,6,5,3,2,0] [0] rfl rfl
  try dsimp only [List.map,xD,xE,xT,xU,ldSF,rHist,rTx,rOrd,rVer,rInt,rOp] at hS
  try simp only [Int.toNat_natCast] at hS
  refine then_n ?_
  refine cond_b hS rfl (fun hc1=>?_) (fun hc1=>?_)
  ·skip
   have h9:0<i∧OrdD.key (Go.Gm.nth l i)≤OrdD.key (Go.Gm.nth l (IntKind.wrap .i64 ((i:Int) - 1)).toNat):=by simpa using hc1
   rw [show IntKind.wrap .i64 ((i:Int) - 1)=((i - 1:Nat):Int) by rw [wrap_i64 (by omega)];omega,Int.toNat_natCast] at h9
   have hg:false=decide (RiseK OrdD.key l):=(decide_eq_false fun e=>by have:=rise_nth e (i:=i - 1) (by omega);rw [show i - 1+1=i by omega] at this;omega).symm
   refine wp_seq ?_
   refine region_z hS (qf (oN .cb) trivial qz qZ) hB [24,23,22,21,20,19,18,17,16,15,14,13,12,11,10,9,8,7,6,5,3,2,0] [0] rfl rfl ?_
   clear hS;intro a w F hS
   refine then_n (wp_ret (block_r (then_r (then_r (block_r (then_r ?_))))))
   refine ret_P hfr hS rfl (.tmp rfl .nil) (.one (.bool hg))
  have hne:0<i→OrdD.key (Go.Gm.nth l (i - 1))<OrdD.key (Go.Gm.nth l i):=fun h0=>by have h9:¬ (0<i∧OrdD.key (Go.Gm.nth l i)≤OrdD.key (Go.Gm.nth l (IntKind.wrap .i64 ((i:Int) - 1)).toNat)):=(by simpa using hc1);rw [show IntKind.wrap .i64 ((i:Int) - 1)=((i - 1:Nat):Int) by rw [wrap_i64 (by omega)];omega,Int.toNat_natCast] at h9;exact Int.not_le.1 fun e=>h9 ⟨h0,e⟩
  refine wp_skip (block_n (then_n ?_))
  refine region_z hS (qf (o_add .t qi) r1 qz (qM rfl rfl qZ)) hB [25,24,23,22,21,20,19,18,17,16,15,14,13,12,11,10,9,8,7,6,5,3,2,0] [0] rfl rfl ?_
  clear hS;intro a w F hS
  refine then_n ?_
  replace hS:=hS.ent (i:=6) (s':=.pv (.int .i64 ((i+1:Nat):Int))) rfl (.int (wrap_succ (by omega)))
  obtain ⟨F,hS⟩:=hS.nm [5,2,0,6] [0] rfl rfl
  exact ⟨(i+1),F,⟨by omega,(fun q h1=>by rcases Nat.lt_or_eq_of_le (Nat.le_of_lt_succ h1) with h8 | h8;exact hq q h8;have h7:q=i - 1:=(by omega);subst h7;rw [show i - 1+1=i by omega];exact hne (by omega))⟩,hS,by omega⟩
 have hil:i=l.length:=by simp at hc0;omega
 have hg:true=decide (RiseK OrdD.key l):=(decide_eq_true (rise_adj fun q h1=>hq q (by omega))).symm
 refine wp_exit (then_x (then_x (block_x (then_n (wp_seq ?_)))))
 refine region_z hS (qf (oN .cb) trivial qz qZ) hB [2] [0] rfl rfl ?_
 clear hS;intro a w F hS
 refine then_n (wp_ret ?_)
 refine ret_P hfr hS rfl (.tmp rfl .nil) (.one (.bool hg))
theorem right14_c (d:DeltaD):FnP Tryz.prog 29 [.agg (rDelta d)] (.bool (decide (RightD d))):=by
 refine FnP.mk Tryz.func29 rfl Tryz.ntmps29 rfl ?_
 intro B a w F hB hfr hS
 refine wp_seq ?_
 refine region_q hS (qf (oX 101 (.conv .t .agg)) r1 qz (qf (oN .cb) trivial qz qZ)) hB ?_
 clear hS;intro a w F hS
 replace hS:=hS.sub
 obtain ⟨F,hS⟩:=hS.nm [2,1] [101,0] rfl rfl
 try dsimp only [RS.sub,SF.sub,CF.sub,csub,Anc.sub,List.map,zCF,rHist,rTx,rOrd,rVer,rInt,rOp,rDelta] at hS
 generalize Act.tau a 1=v1 at hS
 refine then_n (wp_seq ?_)
 refine region_z hS (qf (oF 0 101 .is) r1 r1 (qf (oL false 1 101 .adr) r1 r1 (qf (oP (risingT_c d.was) Tryz.func78 (Args.one .t)) r1 qz (qM rfl rfl (qk rfl (fun h=>oF 1 101 .is) r2 r1 (qk rfl (fun h=>oL false 1 101 (.w h .adr)) r2 r1 (qk rfl (fun h=>oP (risingT_c d.now) Tryz.func78 (Args.one (.w h))) r2 qz (qf (o_and2 .t .t) r2 qz (qM rfl rfl (qk rfl (fun h=>oF 2 101 .is) r2 r1 (qk rfl (fun h=>oL false 1 101 (.w h .adr)) r2 r1 (qk rfl (fun h=>oP (risingR_c d.old) Tryz.func79 (Args.one (.w h))) r2 qz (qf (o_and2 .t .t) r2 qz (qM rfl rfl (qk rfl (fun h=>oF 3 101 .is) r2 r1 (qk rfl (fun h=>oL false 1 101 (.w h .adr)) r2 r1 (qk rfl (fun h=>oP (risingR_c d.new) Tryz.func79 (Args.one (.w h))) r2 qz (qf (o_and2 .t .t) r2 qz (qN rfl rfl qZ))))))))))))))))))) hB [2] [101,0] rfl rfl ?_
 clear hS;intro a w F hS
 refine then_n (wp_ret ?_)
 refine ret_P hfr hS rfl (.tmp rfl .nil) (.one (.bool (rightD_and d)))
theorem emptyD_and (d:DeltaD):(((decide ((d.was.length:Int)=0) && decide ((d.now.length:Int)=0)) && decide ((d.old.length:Int)=0)) && decide ((d.new.length:Int)=0))=emptyD d:=by
 unfold emptyD
 rw [Bool.eq_iff_iff]
 simp only [Bool.and_eq_true,decide_eq_true_eq]
 rw [← List.length_eq_zero_iff,← List.length_eq_zero_iff,← List.length_eq_zero_iff,← List.length_eq_zero_iff]
 omega
theorem empty14_c (d:DeltaD):FnP Tryz.prog 31 [.agg (rDelta d)] (.bool (emptyD d)):=by
 refine FnP.mk Tryz.func31 rfl Tryz.ntmps31 rfl ?_
 intro B a w F hB hfr hS
 refine wp_seq ?_
 refine region_q hS (qf (oX 101 (.conv .t .agg)) r1 qz (qf (oN .cb) trivial qz qZ)) hB ?_
 clear hS;intro a w F hS
 replace hS:=hS.sub
 obtain ⟨F,hS⟩:=hS.nm [2,1] [101,0] rfl rfl
 try dsimp only [RS.sub,SF.sub,CF.sub,csub,Anc.sub,List.map,zCF,rHist,rTx,rOrd,rVer,rInt,rOp,rDelta] at hS
 generalize Act.tau a 1=v1 at hS
 refine then_n (wp_seq ?_)
 refine region_z hS (qf (oF 0 101 .is) r1 r1 (qf (oL false 1 101 .adr) r1 r1 (qf (o_len_sl Tryz.underlying27 .t) r1 qz (qf (o_eql .t qi) r1 qz (qM rfl rfl (qk rfl (fun h=>oF 1 101 .is) r2 r1 (qk rfl (fun h=>oL false 1 101 (.w h .adr)) r2 r1 (qk rfl (fun h=>o_len_sl Tryz.underlying27 (.w h)) r2 qz (qk rfl (fun h=>o_eql (.w h) qi) r2 qz (qf (o_and2 .t .t) r2 qz (qM rfl rfl (qk rfl (fun h=>oF 2 101 .is) r2 r1 (qk rfl (fun h=>oL false 1 101 (.w h .adr)) r2 r1 (qk rfl (fun h=>o_len_sl Tryz.underlying28 (.w h)) r2 qz (qk rfl (fun h=>o_eql (.w h) qi) r2 qz (qf (o_and2 .t .t) r2 qz (qM rfl rfl (qk rfl (fun h=>oF 3 101 .is) r2 r1 (qk rfl (fun h=>oL false 1 101 (.w h .adr)) r2 r1 (qk rfl (fun h=>o_len_sl Tryz.underlying28 (.w h)) r2 qz (qk rfl (fun h=>o_eql (.w h) qi) r2 qz (qf (o_and2 .t .t) r2 qz (qN rfl rfl qZ))))))))))))))))))))))) hB [2] [101,0] rfl rfl ?_
 clear hS;intro a w F hS
 refine then_n (wp_ret ?_)
 refine ret_P hfr hS rfl (.tmp rfl .nil) (.one (.bool (emptyD_and d)))
end Go.Proofs.YtcfgcpcakdknkaaGreat
namespace Go.Proofs.YtcfgcpcakdknkaaGreat
open Go Go.Gm
set_option linter.unusedVariables false
set_option linter.unusedSimpArgs false
set_option maxHeartbeats 4000000
set_option maxRecDepth 8000
theorem drop13_c (l:List TxD) (n:Int) (hll:l.length≤1000000):FnP Tryz.prog 66 [.sl rTx l,.int .i64 n] (.tup [.sl rTx (l.filter fun x=>!decide (TxD.id x=n)),.any]):=by
 refine FnP.mk Tryz.func66 rfl Tryz.ntmps66 rfl ?_
 intro B a w F hB hfr hS
 refine wp_seq ?_
 refine region_z hS (qf (oN (.c rfl)) trivial qz (qf (oN .cb) trivial qz qZ)) hB [5,4,1,0] [0] rfl rfl ?_
 clear hS;intro a w F hS
 refine then_n (wp_seq ?_)
 refine region_z hS (qf (oN (.c rfl)) trivial qz qZ) hB [6,5,4,1,0] [0] rfl rfl ?_
 clear hS;intro a w F hS
 refine then_n (wp_seq (wp_seq ?_))
 refine region_z hS (qM rfl rfl (qf (o_len_sl Tryz.underlying27 .t) r1 qz (qf (oM qi) trivial qz qZ))) hB [11,10,9,6,5,4,1,0] [0] rfl rfl ?_
 clear hS;intro a w F hS
 refine then_n (wp_block ?_)
 replace hS:=hS.fresh 50 rfl
 replace hS:=hS.turn 50 rfl (nilRow (T:=34) (sz:=3) (R:=rTx))
 refine loop_keep (σ:=(Nat)×(Value)×(List TxD)) [0,1,4,5,9,10] [0] (fun s=>[(11,.pv (.int .i64 (s.1:Int))),(6,.pv (.is s.2.1))]) (fun s=>[(50,.ob (.val s.2.1) (rowH 34 3 rTx s.2.2))]) (fun s=>s.1≤l.length∧(s.2.2=((l.take s.1).filter fun x=>!decide (TxD.id x=n)))) (fun s=>l.length - s.1) ((0),(.slice none 0 0),([])) hS ⟨rfl,rfl,rfl,rfl,rfl,rfl,rfl,rfl,trivial⟩ ⟨rfl,rfl,trivial⟩ ⟨Nat.zero_le _,rfl⟩ ?_
 clear hS;intro s a w F hC hS
 obtain ⟨i,v,out⟩:=s
 try dsimp only at hC
 obtain ⟨F,hS⟩:=hS.nm [11,10,9,6,5,4,1,0] [50,0] rfl rfl
 try dsimp only at hS
 obtain ⟨hi,hq⟩:=hC
 have hol:out.length≤i:=by rw [hq];exact Nat.le_trans (List.length_filter_le _ _) (by rw [List.length_take];omega)
 refine wp_seq ?_
 refine region_z hS (qf (o_lss .t .t) r2 qz qZ) hB [12,11,10,9,6,5,4,1,0] [50,0] rfl rfl ?_
 clear hS;intro a w F hS
 refine then_n (wp_seq ?_)
 refine cond_b hS rfl (fun hc0=>?_) (fun hc0=>?_)
 ·skip
  have hil:i<l.length:=by simp at hc0;omega
  refine wp_skip (then_n (wp_seq (wp_block (wp_seq ?_))))
  refine region_q hS (qf (o_indexAddr_sl (sz:=3) (.mk Tryz.underlying27 (by kernel_rfl)) (by intro x;rfl) .t .t (by omega) (by omega)) r2 qz (qf (oR true 3 .t) r1 qz (qf (oH [.int .i64 0,.bool false,.slice none 0 0] 101) trivial qz (qf (oA 3 101 .same .t) r2 r1 qZ)))) hB ?_
  clear hS;intro a w F hS
  replace hS:=hS.sub
  obtain ⟨F,hS⟩:=hS.nm [14,13,12,11,10,9,8,6,5,4,1,0] [101,50,0] rfl rfl
  try dsimp only [RS.sub,SF.sub,CF.sub,csub,Anc.sub,List.map,stCells,xL,xM,Nat.reduceAdd,xD,xE,xT,xU,xC,xN,zCF,ldSF,rHist,rTx,rOrd,rVer,rInt,rOp] at hS
  generalize Act.tau a 8=v8 at hS
  try simp only [Int.toNat_natCast] at hS
  refine then_n (wp_seq ?_)
  refine region_z hS (qf (oF 0 101 .is) r1 r1 (qf (oL false 1 101 .adr) r1 r1 (qM rfl rfl (qf (o_neq .t .t) r2 qz qZ)))) hB [18,17,16,15,14,13,12,11,10,9,8,6,5,4,1,0] [101,50,0] rfl rfl ?_
  clear hS;intro a w F hS
  refine then_n ?_
  refine cond_b hS rfl (fun hc1=>?_) (fun hc1=>?_)
  ·skip
   have h9:¬ TxD.id (Go.Gm.nth l i)=n:=by simpa using hc1
   have hst9:out ++ [(Go.Gm.nth l i)] = ((l.take (i+1)).filter fun x=>!decide (TxD.id x=n)):=by rw [hq,filter_step hil,if_pos (by simpa using h9)]
   refine region_q hS (qM rfl rfl (qf (oL true 3 101 .is) r1 r1 (qf (o_buildSliceE (sz:=3) (zs:=[.int .i64 0,.bool false,.slice none 0 0]) (r:=[(0,.tmp 20)]) (l:=[_,_,_]) Tryz.underlying27 (by kernel_rfl) (by kernel_rfl) (by kernel_rfl) (by kernel_rfl) rfl rfl (.agg rfl .t (by kernel_rfl) (by kernel_rfl) .nil) rfl) r1 qz (qf (o_append (sz:=3) (bs:=40) 50 (.mk' Tryz.underlying27 (by kernel_rfl) (by kernel_rfl)) (by intro x;rfl) .is (.arr (l':=[(Go.Gm.nth l i)]) .t) (by simp only [List.length_append,List.length_cons,List.length_nil];omega) (by decide)) ⟨rfl,rfl,trivial⟩ ⟨rfl,trivial⟩ (qN rfl rfl qZ))))) hB ?_
   clear hS;intro a w F hS
   replace hS:=hS.sub
   obtain ⟨F,hS⟩:=hS.nm [22,21,20,19,18,17,16,15,14,13,12,11,10,9,8,6,5,4,1,0] [101,50,0] rfl rfl
   try dsimp only [RS.sub,SF.sub,CF.sub,csub,Anc.sub,List.map,stCells,xL,xM,Nat.reduceAdd,xD,xE,xT,xU,xC,xN,zCF,ldSF,rHist,rTx,rOrd,rVer,rInt,rOp] at hS
   generalize Act.tau a 22=v22 at hS
   refine block_n (then_n ?_)
   refine region_z hS (qf (o_add .t qi) r1 qz (qM rfl rfl qZ)) hB [23,22,21,20,19,18,17,16,15,14,13,12,11,10,9,8,6,5,4,1,0] [101,50,0] rfl rfl ?_
   clear hS;intro a w F hS
   refine then_n ?_
   replace hS:=hS.ent (i:=11) (s':=.pv (.int .i64 ((i+1:Nat):Int))) rfl (.int (wrap_succ (by omega)))
   obtain ⟨F,hS⟩:=hS.nm [10,9,5,4,1,0,6,11] [0,50] rfl rfl
   exact ⟨((i+1),_,_),F,⟨by omega,hst9⟩,hS,by omega⟩
  have h9:TxD.id (Go.Gm.nth l i)=n:=by simpa using hc1
  have hst9:out=((l.take (i+1)).filter fun x=>!decide (TxD.id x=n)):=by rw [hq,filter_step hil,if_neg (by simpa using h9),List.append_nil]
  refine wp_skip (block_n (then_n ?_))
  refine region_z hS (qf (o_add .t qi) r1 qz (qM rfl rfl qZ)) hB [23,18,17,16,15,14,13,12,11,10,9,8,6,5,4,1,0] [101,50,0] rfl rfl ?_
  clear hS;intro a w F hS
  refine then_n ?_
  replace hS:=hS.ent (i:=11) (s':=.pv (.int .i64 ((i+1:Nat):Int))) rfl (.int (wrap_succ (by omega)))
  obtain ⟨F,hS⟩:=hS.nm [10,9,5,4,1,0,6,11] [0,50] rfl rfl
  exact ⟨((i+1),_,_),F,⟨by omega,hst9⟩,hS,by omega⟩
 have hil:i=l.length:=by simp at hc0;omega
 have hg:out=l.filter fun x=>!decide (TxD.id x=n):=by rw [hq,hil,List.take_length]
 refine wp_exit (then_x (then_x (block_x (then_n (wp_seq ?_)))))
 refine region_z hS (qM rfl rfl (qM rfl rfl (qf (o_len_row 50 Tryz.underlying27 .is) r1 r1 (qM rfl rfl (qf (o_len_sl Tryz.underlying27 .t) r1 qz (qf (o_lss .t .t) r2 qz (qN rfl rfl (qN rfl rfl qZ)))))))) hB [5,4] [50,0] rfl rfl ?_
 clear hS;intro a w F hS
 refine then_n (wp_ret ?_)
 obtain ⟨F,hS⟩:=hS.give 50 4 rfl rfl
 refine ret_P hfr hS rfl (.tmp rfl (.tmp rfl .nil)) (.two (.sl (by rw [hg])) .any)
theorem without14_c (l:List OrdD) (n:Int) (hll:l.length≤1000000):FnP Tryz.prog 68 [.sl rOrd l,.int .i64 n] (.sl rOrd (l.filter fun x=>!decide (OrdD.key x=n))):=by
 refine FnP.mk Tryz.func68 rfl Tryz.ntmps68 rfl ?_
 intro B a w F hB hfr hS
 refine wp_seq ?_
 refine region_z hS (qf (oN (.c rfl)) trivial qz qZ) hB [4,1,0] [0] rfl rfl ?_
 clear hS;intro a w F hS
 refine then_n (wp_seq ?_)
 refine region_z hS (qf (oN (.c rfl)) trivial qz qZ) hB [5,4,1,0] [0] rfl rfl ?_
 clear hS;intro a w F hS
 refine then_n (wp_seq (wp_seq ?_))
 refine region_z hS (qM rfl rfl (qf (o_len_sl Tryz.underlying28 .t) r1 qz (qf (oM qi) trivial qz qZ))) hB [10,9,8,5,4,1] [0] rfl rfl ?_
 clear hS;intro a w F hS
 refine then_n (wp_block ?_)
 replace hS:=hS.fresh 50 rfl
 replace hS:=hS.turn 50 rfl (nilRow (T:=37) (sz:=2) (R:=rOrd))
 refine loop_keep (σ:=(Nat)×(Value)×(List OrdD)) [1,4,8,9] [0] (fun s=>[(10,.pv (.int .i64 (s.1:Int))),(5,.pv (.is s.2.1))]) (fun s=>[(50,.ob (.val s.2.1) (rowH 37 2 rOrd s.2.2))]) (fun s=>s.1≤l.length∧(s.2.2=((l.take s.1).filter fun x=>!decide (OrdD.key x=n)))) (fun s=>l.length - s.1) ((0),(.slice none 0 0),([])) hS ⟨rfl,rfl,rfl,rfl,rfl,rfl,trivial⟩ ⟨rfl,rfl,trivial⟩ ⟨Nat.zero_le _,rfl⟩ ?_
 clear hS;intro s a w F hC hS
 obtain ⟨i,v,out⟩:=s
 try dsimp only at hC
 obtain ⟨F,hS⟩:=hS.nm [10,9,8,5,4,1] [50,0] rfl rfl
 try dsimp only at hS
 obtain ⟨hi,hq⟩:=hC
 have hol:out.length≤i:=by rw [hq];exact Nat.le_trans (List.length_filter_le _ _) (by rw [List.length_take];omega)
 refine wp_seq ?_
 refine region_z hS (qf (o_lss .t .t) r2 qz qZ) hB [11,10,9,8,5,4,1] [50,0] rfl rfl ?_
 clear hS;intro a w F hS
 refine then_n (wp_seq ?_)
 refine cond_b hS rfl (fun hc0=>?_) (fun hc0=>?_)
 ·skip
  have hil:i<l.length:=by simp at hc0;omega
  refine wp_skip (then_n (wp_seq (wp_block (wp_seq ?_))))
  refine region_q hS (qf (o_indexAddr_sl (sz:=2) (.mk Tryz.underlying28 (by kernel_rfl)) (by intro x;rfl) .t .t (by omega) (by omega)) r2 qz (qf (oR true 2 .t) r1 qz (qf (oH [.int .i64 0,.slice none 0 0] 101) trivial qz (qf (oA 2 101 .same .t) r2 r1 qZ)))) hB ?_
  clear hS;intro a w F hS
  replace hS:=hS.sub
  obtain ⟨F,hS⟩:=hS.nm [13,12,11,10,9,8,7,5,4,1] [101,50,0] rfl rfl
  try dsimp only [RS.sub,SF.sub,CF.sub,csub,Anc.sub,List.map,stCells,xL,xM,Nat.reduceAdd,xD,xE,xT,xU,xC,xN,zCF,ldSF,rHist,rTx,rOrd,rVer,rInt,rOp] at hS
  generalize Act.tau a 7=v7 at hS
  try simp only [Int.toNat_natCast] at hS
  refine then_n (wp_seq ?_)
  refine region_z hS (qf (oF 0 101 .is) r1 r1 (qf (oL false 1 101 .adr) r1 r1 (qM rfl rfl (qf (o_neq .t .t) r2 qz qZ)))) hB [17,16,15,14,13,12,11,10,9,8,7,5,4,1] [101,50,0] rfl rfl ?_
  clear hS;intro a w F hS
  refine then_n ?_
  refine cond_b hS rfl (fun hc1=>?_) (fun hc1=>?_)
  ·skip
   have h9:¬ OrdD.key (Go.Gm.nth l i)=n:=by simpa using hc1
   have hst9:out ++ [(Go.Gm.nth l i)] = ((l.take (i+1)).filter fun x=>!decide (OrdD.key x=n)):=by rw [hq,filter_step hil,if_pos (by simpa using h9)]
   refine region_q hS (qM rfl rfl (qf (oL true 2 101 .is) r1 r1 (qf (o_buildSliceE (sz:=2) (zs:=[.int .i64 0,.slice none 0 0]) (r:=[(0,.tmp 19)]) (l:=[_,_]) Tryz.underlying28 (by kernel_rfl) (by kernel_rfl) (by kernel_rfl) (by kernel_rfl) rfl rfl (.agg rfl .t (by kernel_rfl) (by kernel_rfl) .nil) rfl) r1 qz (qf (o_append (sz:=2) (bs:=32) 50 (.mk' Tryz.underlying28 (by kernel_rfl) (by kernel_rfl)) (by intro x;rfl) .is (.arr (l':=[(Go.Gm.nth l i)]) .t) (by simp only [List.length_append,List.length_cons,List.length_nil];omega) (by decide)) ⟨rfl,rfl,trivial⟩ ⟨rfl,trivial⟩ (qN rfl rfl qZ))))) hB ?_
   clear hS;intro a w F hS
   replace hS:=hS.sub
   obtain ⟨F,hS⟩:=hS.nm [21,20,19,18,17,16,15,14,13,12,11,10,9,8,7,5,4,1] [101,50,0] rfl rfl
   try dsimp only [RS.sub,SF.sub,CF.sub,csub,Anc.sub,List.map,stCells,xL,xM,Nat.reduceAdd,xD,xE,xT,xU,xC,xN,zCF,ldSF,rHist,rTx,rOrd,rVer,rInt,rOp] at hS
   generalize Act.tau a 21=v21 at hS
   refine block_n (then_n ?_)
   refine region_z hS (qf (o_add .t qi) r1 qz (qM rfl rfl qZ)) hB [22,21,20,19,18,17,16,15,14,13,12,11,10,9,8,7,5,4,1] [101,50,0] rfl rfl ?_
   clear hS;intro a w F hS
   refine then_n ?_
   replace hS:=hS.ent (i:=10) (s':=.pv (.int .i64 ((i+1:Nat):Int))) rfl (.int (wrap_succ (by omega)))
   obtain ⟨F,hS⟩:=hS.nm [9,8,4,1,5,10] [0,50] rfl rfl
   exact ⟨((i+1),_,_),F,⟨by omega,hst9⟩,hS,by omega⟩
  have h9:OrdD.key (Go.Gm.nth l i)=n:=by simpa using hc1
  have hst9:out=((l.take (i+1)).filter fun x=>!decide (OrdD.key x=n)):=by rw [hq,filter_step hil,if_neg (by simpa using h9),List.append_nil]
  refine wp_skip (block_n (then_n ?_))
  refine region_z hS (qf (o_add .t qi) r1 qz (qM rfl rfl qZ)) hB [22,17,16,15,14,13,12,11,10,9,8,7,5,4,1] [101,50,0] rfl rfl ?_
  clear hS;intro a w F hS
  refine then_n ?_
  replace hS:=hS.ent (i:=10) (s':=.pv (.int .i64 ((i+1:Nat):Int))) rfl (.int (wrap_succ (by omega)))
  obtain ⟨F,hS⟩:=hS.nm [9,8,4,1,5,10] [0,50] rfl rfl
  exact ⟨((i+1),_,_),F,⟨by omega,hst9⟩,hS,by omega⟩
 have hil:i=l.length:=by simp at hc0;omega
 have hg:out=l.filter fun x=>!decide (OrdD.key x=n):=by rw [hq,hil,List.take_length]
 refine wp_exit (then_x (then_x (block_x (then_n (wp_seq ?_)))))
 refine region_z hS (qM rfl rfl (qN rfl rfl qZ)) hB [4] [50,0] rfl rfl ?_
 clear hS;intro a w F hS
 refine then_n (wp_ret ?_)
 obtain ⟨F,hS⟩:=hS.give 50 4 rfl rfl
 refine ret_P hfr hS rfl (.tmp rfl .nil) (.one (.sl (by rw [hg])))
theorem put13_c (l:List TxD) (t:TxD) (hl:l.length≤1000000):FnP Tryz.prog 67 [.sl rTx l,.agg (rTx t)] (.sl rTx (putGR TxD.id t l false)):=by
 refine FnP.mk Tryz.func67 rfl Tryz.ntmps67 rfl ?_
 intro B a w F hB hfr hS
 refine wp_seq ?_
 refine region_q hS (qf (oX 101 (.conv .t .agg)) r1 qz (qf (oN (.c rfl)) trivial qz qZ)) hB ?_
 clear hS;intro a w F hS
 replace hS:=hS.sub
 obtain ⟨F,hS⟩:=hS.nm [4,3,0] [101,0] rfl rfl
 try dsimp only [RS.sub,SF.sub,CF.sub,csub,Anc.sub,List.map,zCF,rHist,rTx,rOrd,rVer,rInt,rOp] at hS
 generalize Act.tau a 3=v3 at hS
 refine then_n (wp_seq ?_)
 refine region_z hS (qf (oN (.c rfl)) trivial qz qZ) hB [5,4,3,0] [101,0] rfl rfl ?_
 clear hS;intro a w F hS
 refine then_n (wp_seq ?_)
 refine region_z hS (qf (oN .cb) trivial qz qZ) hB [6,5,4,3,0] [101,0] rfl rfl ?_
 clear hS;intro a w F hS
 refine then_n (wp_seq (wp_seq ?_))
 refine region_z hS (qM rfl rfl (qf (o_len_sl Tryz.underlying27 .t) r1 qz (qf (oM qi) trivial qz qZ))) hB [11,10,9,6,5,4,3] [101,0] rfl rfl ?_
 clear hS;intro a w F hS
 refine then_n (wp_block ?_)
 replace hS:=hS.fresh 50 rfl
 replace hS:=hS.turn 50 rfl (nilRow (T:=34) (sz:=3) (R:=rTx))
 refine loop_keep (σ:=(Nat)×(Bool)×(Value)×(List TxD)) [3,4,9,10] [0,101] (fun s=>[(11,.pv (.int .i64 (s.1:Int))),(6,.pv (.bool s.2.1)),(5,.pv (.is s.2.2.1))]) (fun s=>[(50,.ob (.val s.2.2.1) (rowH 34 3 rTx s.2.2.2))]) (fun s=>s.1≤l.length∧(s.2.2.2++putGR TxD.id t (l.drop s.1) s.2.1=putGR TxD.id t l false)) (fun s=>l.length - s.1) ((0),(false),(.slice none 0 0),([])) hS ⟨rfl,rfl,rfl,rfl,rfl,rfl,rfl,trivial⟩ ⟨rfl,rfl,rfl,trivial⟩ ⟨Nat.zero_le _,rfl⟩ ?_
 clear hS;intro s a w F hC hS
 obtain ⟨i,d,v,out⟩:=s
 try dsimp only at hC
 obtain ⟨F,hS⟩:=hS.nm [11,10,9,6,5,4,3] [101,50,0] rfl rfl
 try dsimp only at hS
 obtain ⟨hi,hq⟩:=hC
 have hol:=congrArg List.length hq
 rw [List.length_append] at hol
 have htl:(putGR TxD.id t l false).length≤l.length+1:=putGR_len l _
 refine wp_seq ?_
 refine region_z hS (qf (o_lss .t .t) r2 qz qZ) hB [12,11,10,9,6,5,4,3] [101,50,0] rfl rfl ?_
 clear hS;intro a w F hS
 refine then_n (wp_seq ?_)
 refine cond_b hS rfl (fun hc0=>?_) (fun hc0=>?_)
 ·skip
  have hil:i<l.length:=by simp at hc0;omega
  refine wp_skip (then_n (wp_seq (wp_block (wp_seq ?_))))
  refine region_q hS (qf (o_indexAddr_sl (sz:=3) (.mk Tryz.underlying27 (by kernel_rfl)) (by intro x;rfl) .t .t (by omega) (by omega)) r2 qz (qf (oR true 3 .t) r1 qz (qf (oH [.int .i64 0,.bool false,.slice none 0 0] 102) trivial qz (qf (oA 3 102 .same .t) r2 r1 qZ)))) hB ?_
  clear hS;intro a w F hS
  replace hS:=hS.sub
  obtain ⟨F,hS⟩:=hS.nm [14,13,12,11,10,9,8,6,5,4,3] [102,101,50,0] rfl rfl
  try dsimp only [RS.sub,SF.sub,CF.sub,csub,Anc.sub,List.map,stCells,xL,xM,Nat.reduceAdd,xD,xE,xT,xU,xC,xN,zCF,ldSF,rHist,rTx,rOrd,rVer,rInt,rOp] at hS
  generalize Act.tau a 8=v8 at hS
  try simp only [Int.toNat_natCast] at hS
  refine then_n (wp_seq (wp_seq ?_))
  refine region_z hS (qM rfl rfl (qf (o_not .t) r1 qz (qM rfl rfl (qk rfl (fun h=>oF 0 102 .is) r2 r1 (qk rfl (fun h=>oL false 1 102 (.w h .adr)) r2 r1 (qk rfl (fun h=>oF 0 101 .is) r2 r1 (qk rfl (fun h=>oL false 1 101 (.w h .adr)) r2 r1 (qk rfl (fun h=>o_geq (.w h) (.w h)) r3 qz (qf (o_and2 .t .t) r2 qz qZ))))))))) hB [23,22,21,20,19,18,17,16,15,14,13,12,11,10,9,8,6,5,4,3] [102,101,50,0] rfl rfl ?_
  clear hS;intro a w F hS
  refine then_n ?_
  refine cond_b hS rfl (fun hc1=>?_) (fun hc1=>?_)
  ·skip
   have hA:d=false∧TxD.id t≤TxD.id (Go.Gm.nth l i):=by simpa using hc1
   refine wp_seq ?_
   refine region_q hS (qM rfl rfl (qf (oL true 3 101 .is) r1 r1 (qf (o_buildSliceE (sz:=3) (zs:=[.int .i64 0,.bool false,.slice none 0 0]) (r:=[(0,.tmp 25)]) (l:=[_,_,_]) Tryz.underlying27 (by kernel_rfl) (by kernel_rfl) (by kernel_rfl) (by kernel_rfl) rfl rfl (.agg rfl .t (by kernel_rfl) (by kernel_rfl) .nil) rfl) r1 qz (qf (o_append (sz:=3) (bs:=40) 50 (.mk' Tryz.underlying27 (by kernel_rfl) (by kernel_rfl)) (by intro x;rfl) .is (.arr (l':=[t]) .t) (by simp only [List.length_append,List.length_cons,List.length_nil];omega) (by decide)) ⟨rfl,rfl,trivial⟩ ⟨rfl,trivial⟩ (qN rfl rfl qZ))))) hB ?_
   clear hS;intro a w F hS
   replace hS:=hS.sub
   obtain ⟨F,hS⟩:=hS.nm [27,26,25,24,23,22,21,20,19,18,17,16,15,14,13,12,11,10,9,8,6,5,4,3] [102,101,50,0] rfl rfl
   try dsimp only [RS.sub,SF.sub,CF.sub,csub,Anc.sub,List.map,stCells,xL,xM,Nat.reduceAdd,xD,xE,xT,xU,xC,xN,zCF,ldSF,rHist,rTx,rOrd,rVer,rInt,rOp] at hS
   generalize Act.tau a 27=v27 at hS
   refine then_n ?_
   refine region_z hS (qf (oN .cb) trivial qz qZ) hB [27,26,25,24,23,22,21,20,19,18,17,16,15,14,13,12,11,10,9,8,6,5,4,3] [102,101,50,0] rfl rfl ?_
   clear hS;intro a w F hS
   refine then_n (wp_seq ?_)
   refine region_z hS (qf (oF 0 102 .is) r1 r1 (qf (oL false 1 102 .adr) r1 r1 (qf (oF 0 101 .is) r1 r1 (qf (oL false 1 101 .adr) r1 r1 (qf (o_neq .t .t) r2 qz qZ))))) hB [32,31,30,29,28,27,26,25,24,23,22,21,20,19,18,17,16,15,14,13,12,11,10,9,8,6,5,4,3] [102,101,50,0] rfl rfl ?_
   clear hS;intro a w F hS
   refine then_n ?_
   refine cond_b hS rfl (fun hc2=>?_) (fun hc2=>?_)
   ·skip
    have hBq:¬ TxD.id (Go.Gm.nth l i)=TxD.id t:=by simpa using hc2
    refine region_q hS (qM rfl rfl (qf (oL true 3 102 .is) r1 r1 (qf (o_buildSliceE (sz:=3) (zs:=[.int .i64 0,.bool false,.slice none 0 0]) (r:=[(0,.tmp 34)]) (l:=[_,_,_]) Tryz.underlying27 (by kernel_rfl) (by kernel_rfl) (by kernel_rfl) (by kernel_rfl) rfl rfl (.agg rfl .t (by kernel_rfl) (by kernel_rfl) .nil) rfl) r1 qz (qf (o_append (sz:=3) (bs:=40) 50 (.mk' Tryz.underlying27 (by kernel_rfl) (by kernel_rfl)) (by intro x;rfl) .is (.arr (l':=[(Go.Gm.nth l i)]) .t) (by simp only [List.length_append,List.length_cons,List.length_nil];omega) (by decide)) ⟨rfl,rfl,trivial⟩ ⟨rfl,trivial⟩ (qN rfl rfl qZ))))) hB ?_
    clear hS;intro a w F hS
    replace hS:=hS.sub
    obtain ⟨F,hS⟩:=hS.nm [36,35,34,33,32,31,30,29,28,27,26,25,24,23,22,21,20,19,18,17,16,15,14,13,12,11,10,9,8,6,5,4,3] [102,101,50,0] rfl rfl
    try dsimp only [RS.sub,SF.sub,CF.sub,csub,Anc.sub,List.map,stCells,xL,xM,Nat.reduceAdd,xD,xE,xT,xU,xC,xN,zCF,ldSF,rHist,rTx,rOrd,rVer,rInt,rOp] at hS
    generalize Act.tau a 36=v36 at hS
    refine block_n (then_n ?_)
    refine region_z hS (qf (o_add .t qi) r1 qz (qM rfl rfl qZ)) hB [37,36,35,34,33,32,31,30,29,28,27,26,25,24,23,22,21,20,19,18,17,16,15,14,13,12,11,10,9,8,6,5,4,3] [102,101,50,0] rfl rfl ?_
    clear hS;intro a w F hS
    refine then_n ?_
    replace hS:=hS.ent (i:=11) (s':=.pv (.int .i64 ((i+1:Nat):Int))) rfl (.int (wrap_succ (by omega)))
    obtain ⟨F,hS⟩:=hS.nm [10,9,4,3,5,6,11] [101,0,50] rfl rfl
    exact ⟨((i+1),_,_,_),F,⟨by omega,(by rw [drop_nth hil] at hq;first | exact putGR_TT hA hBq hq | exact putGR_TF hA hBq hq | exact putGR_FT hA hBq hq | exact putGR_FF hA hBq hq)⟩,hS,by omega⟩
   have hBq:TxD.id (Go.Gm.nth l i)=TxD.id t:=by simpa using hc2
   refine wp_skip (block_n (then_n ?_))
   refine region_z hS (qf (o_add .t qi) r1 qz (qM rfl rfl qZ)) hB [37,32,31,30,29,28,27,26,25,24,23,22,21,20,19,18,17,16,15,14,13,12,11,10,9,8,6,5,4,3] [102,101,50,0] rfl rfl ?_
   clear hS;intro a w F hS
   refine then_n ?_
   replace hS:=hS.ent (i:=11) (s':=.pv (.int .i64 ((i+1:Nat):Int))) rfl (.int (wrap_succ (by omega)))
   obtain ⟨F,hS⟩:=hS.nm [10,9,4,3,5,6,11] [101,0,50] rfl rfl
   exact ⟨((i+1),_,_,_),F,⟨by omega,(by rw [drop_nth hil] at hq;first | exact putGR_TT hA hBq hq | exact putGR_TF hA hBq hq | exact putGR_FT hA hBq hq | exact putGR_FF hA hBq hq)⟩,hS,by omega⟩
  have hA:¬ (d=false∧TxD.id t≤TxD.id (Go.Gm.nth l i)):=by rintro ⟨h1,h2⟩;subst h1;have h9:=hc1;simp at h9;omega
  refine wp_skip (then_n (wp_seq ?_))
  refine region_z hS (qf (oF 0 102 .is) r1 r1 (qf (oL false 1 102 .adr) r1 r1 (qf (oF 0 101 .is) r1 r1 (qf (oL false 1 101 .adr) r1 r1 (qf (o_neq .t .t) r2 qz qZ))))) hB [32,31,30,29,28,23,22,21,20,19,18,17,16,15,14,13,12,11,10,9,8,6,5,4,3] [102,101,50,0] rfl rfl ?_
  clear hS;intro a w F hS
  refine then_n ?_
  refine cond_b hS rfl (fun hc3=>?_) (fun hc3=>?_)
  ·skip
   have hBq:¬ TxD.id (Go.Gm.nth l i)=TxD.id t:=by simpa using hc3
   refine region_q hS (qM rfl rfl (qf (oL true 3 102 .is) r1 r1 (qf (o_buildSliceE (sz:=3) (zs:=[.int .i64 0,.bool false,.slice none 0 0]) (r:=[(0,.tmp 34)]) (l:=[_,_,_]) Tryz.underlying27 (by kernel_rfl) (by kernel_rfl) (by kernel_rfl) (by kernel_rfl) rfl rfl (.agg rfl .t (by kernel_rfl) (by kernel_rfl) .nil) rfl) r1 qz (qf (o_append (sz:=3) (bs:=40) 50 (.mk' Tryz.underlying27 (by kernel_rfl) (by kernel_rfl)) (by intro x;rfl) .is (.arr (l':=[(Go.Gm.nth l i)]) .t) (by simp only [List.length_append,List.length_cons,List.length_nil];omega) (by decide)) ⟨rfl,rfl,trivial⟩ ⟨rfl,trivial⟩ (qN rfl rfl qZ))))) hB ?_
   clear hS;intro a w F hS
   replace hS:=hS.sub
   obtain ⟨F,hS⟩:=hS.nm [36,35,34,33,32,31,30,29,28,23,22,21,20,19,18,17,16,15,14,13,12,11,10,9,8,6,5,4,3] [102,101,50,0] rfl rfl
   try dsimp only [RS.sub,SF.sub,CF.sub,csub,Anc.sub,List.map,stCells,xL,xM,Nat.reduceAdd,xD,xE,xT,xU,xC,xN,zCF,ldSF,rHist,rTx,rOrd,rVer,rInt,rOp] at hS
   generalize Act.tau a 36=v36 at hS
   refine block_n (then_n ?_)
   refine region_z hS (qf (o_add .t qi) r1 qz (qM rfl rfl qZ)) hB [37,36,35,34,33,32,31,30,29,28,23,22,21,20,19,18,17,16,15,14,13,12,11,10,9,8,6,5,4,3] [102,101,50,0] rfl rfl ?_
   clear hS;intro a w F hS
   refine then_n ?_
   replace hS:=hS.ent (i:=11) (s':=.pv (.int .i64 ((i+1:Nat):Int))) rfl (.int (wrap_succ (by omega)))
   obtain ⟨F,hS⟩:=hS.nm [10,9,4,3,5,6,11] [101,0,50] rfl rfl
   exact ⟨((i+1),_,_,_),F,⟨by omega,(by rw [drop_nth hil] at hq;first | exact putGR_TT hA hBq hq | exact putGR_TF hA hBq hq | exact putGR_FT hA hBq hq | exact putGR_FF hA hBq hq)⟩,hS,by omega⟩
  have hBq:TxD.id (Go.Gm.nth l i)=TxD.id t:=by simpa using hc3
  refine wp_skip (block_n (then_n ?_))
  refine region_z hS (qf (o_add .t qi) r1 qz (qM rfl rfl qZ)) hB [37,32,31,30,29,28,23,22,21,20,19,18,17,16,15,14,13,12,11,10,9,8,6,5,4,3] [102,101,50,0] rfl rfl ?_
  clear hS;intro a w F hS
  refine then_n ?_
  replace hS:=hS.ent (i:=11) (s':=.pv (.int .i64 ((i+1:Nat):Int))) rfl (.int (wrap_succ (by omega)))
  obtain ⟨F,hS⟩:=hS.nm [10,9,4,3,5,6,11] [101,0,50] rfl rfl
  exact ⟨((i+1),_,_,_),F,⟨by omega,(by rw [drop_nth hil] at hq;first | exact putGR_TT hA hBq hq | exact putGR_TF hA hBq hq | exact putGR_FT hA hBq hq | exact putGR_FF hA hBq hq)⟩,hS,by omega⟩
 have hil:i=l.length:=by simp at hc0;omega
 refine wp_exit (then_x (then_x (block_x (then_n (wp_seq (wp_seq ?_))))))
 refine region_z hS (qM rfl rfl (qf (o_not .t) r1 qz qZ)) hB [39,5,4,3] [101,50,0] rfl rfl ?_
 clear hS;intro a w F hS
 refine then_n ?_
 refine cond_b hS rfl (fun hc4=>?_) (fun hc4=>?_)
 ·skip
  have hfin:out ++ [t] = putGR TxD.id t l false:=by rw [hil,List.drop_length] at hq;cases d with | true=>simp at hc4 | false=>exact hq
  refine region_q hS (qM rfl rfl (qf (oL true 3 101 .is) r1 r1 (qf (o_buildSliceE (sz:=3) (zs:=[.int .i64 0,.bool false,.slice none 0 0]) (r:=[(0,.tmp 41)]) (l:=[_,_,_]) Tryz.underlying27 (by kernel_rfl) (by kernel_rfl) (by kernel_rfl) (by kernel_rfl) rfl rfl (.agg rfl .t (by kernel_rfl) (by kernel_rfl) .nil) rfl) r1 qz (qf (o_append (sz:=3) (bs:=40) 50 (.mk' Tryz.underlying27 (by kernel_rfl) (by kernel_rfl)) (by intro x;rfl) .is (.arr (l':=[t]) .t) (by simp only [List.length_append,List.length_cons,List.length_nil];omega) (by decide)) ⟨rfl,rfl,trivial⟩ ⟨rfl,trivial⟩ (qN rfl rfl qZ))))) hB ?_
  clear hS;intro a w F hS
  replace hS:=hS.sub
  obtain ⟨F,hS⟩:=hS.nm [5,4] [101,50,0] rfl rfl
  try dsimp only [RS.sub,SF.sub,CF.sub,csub,Anc.sub,List.map,stCells,xL,xM,Nat.reduceAdd,xD,xE,xT,xU,xC,xN,zCF,ldSF,rHist,rTx,rOrd,rVer,rInt,rOp] at hS
  generalize Act.tau a 43=v43 at hS
  refine then_n (wp_seq ?_)
  refine region_z hS (qM rfl rfl (qN rfl rfl qZ)) hB [4] [101,50,0] rfl rfl ?_
  clear hS;intro a w F hS
  refine then_n (wp_ret ?_)
  obtain ⟨F,hS⟩:=hS.give 50 4 rfl rfl
  refine ret_P hfr hS rfl (.tmp rfl .nil) (.one (.sl hfin))
 have hfin:out=putGR TxD.id t l false:=by rw [hil,List.drop_length] at hq;cases d with | false=>simp at hc4 | true=>simpa [putGR] using hq
 refine wp_skip (then_n (wp_seq ?_))
 refine region_z hS (qM rfl rfl (qN rfl rfl qZ)) hB [4] [101,50,0] rfl rfl ?_
 clear hS;intro a w F hS
 refine then_n (wp_ret ?_)
 obtain ⟨F,hS⟩:=hS.give 50 4 rfl rfl
 refine ret_P hfr hS rfl (.tmp rfl .nil) (.one (.sl hfin))
theorem putOrder14_c (l:List OrdD) (t:OrdD) (hl:l.length≤1000000):FnP Tryz.prog 69 [.sl rOrd l,.agg (rOrd t)] (.sl rOrd (putGR OrdD.key t l false)):=by
 refine FnP.mk Tryz.func69 rfl Tryz.ntmps69 rfl ?_
 intro B a w F hB hfr hS
 refine wp_seq ?_
 refine region_q hS (qf (oX 101 (.conv .t .agg)) r1 qz (qf (oN (.c rfl)) trivial qz qZ)) hB ?_
 clear hS;intro a w F hS
 replace hS:=hS.sub
 obtain ⟨F,hS⟩:=hS.nm [4,3,0] [101,0] rfl rfl
 try dsimp only [RS.sub,SF.sub,CF.sub,csub,Anc.sub,List.map,zCF,rHist,rTx,rOrd,rVer,rInt,rOp] at hS
 generalize Act.tau a 3=v3 at hS
 refine then_n (wp_seq ?_)
 refine region_z hS (qf (oN (.c rfl)) trivial qz qZ) hB [5,4,3,0] [101,0] rfl rfl ?_
 clear hS;intro a w F hS
 refine then_n (wp_seq ?_)
 refine region_z hS (qf (oN .cb) trivial qz qZ) hB [6,5,4,3,0] [101,0] rfl rfl ?_
 clear hS;intro a w F hS
 refine then_n (wp_seq (wp_seq ?_))
 refine region_z hS (qM rfl rfl (qf (o_len_sl Tryz.underlying28 .t) r1 qz (qf (oM qi) trivial qz qZ))) hB [11,10,9,6,5,4,3] [101,0] rfl rfl ?_
 clear hS;intro a w F hS
 refine then_n (wp_block ?_)
 replace hS:=hS.fresh 50 rfl
 replace hS:=hS.turn 50 rfl (nilRow (T:=37) (sz:=2) (R:=rOrd))
 refine loop_keep (σ:=(Nat)×(Bool)×(Value)×(List OrdD)) [3,4,9,10] [0,101] (fun s=>[(11,.pv (.int .i64 (s.1:Int))),(6,.pv (.bool s.2.1)),(5,.pv (.is s.2.2.1))]) (fun s=>[(50,.ob (.val s.2.2.1) (rowH 37 2 rOrd s.2.2.2))]) (fun s=>s.1≤l.length∧(s.2.2.2++putGR OrdD.key t (l.drop s.1) s.2.1=putGR OrdD.key t l false)) (fun s=>l.length - s.1) ((0),(false),(.slice none 0 0),([])) hS ⟨rfl,rfl,rfl,rfl,rfl,rfl,rfl,trivial⟩ ⟨rfl,rfl,rfl,trivial⟩ ⟨Nat.zero_le _,rfl⟩ ?_
 clear hS;intro s a w F hC hS
 obtain ⟨i,d,v,out⟩:=s
 try dsimp only at hC
 obtain ⟨F,hS⟩:=hS.nm [11,10,9,6,5,4,3] [101,50,0] rfl rfl
 try dsimp only at hS
 obtain ⟨hi,hq⟩:=hC
 have hol:=congrArg List.length hq
 rw [List.length_append] at hol
 have htl:(putGR OrdD.key t l false).length≤l.length+1:=putGR_len l _
 refine wp_seq ?_
 refine region_z hS (qf (o_lss .t .t) r2 qz qZ) hB [12,11,10,9,6,5,4,3] [101,50,0] rfl rfl ?_
 clear hS;intro a w F hS
 refine then_n (wp_seq ?_)
 refine cond_b hS rfl (fun hc0=>?_) (fun hc0=>?_)
 ·skip
  have hil:i<l.length:=by simp at hc0;omega
  refine wp_skip (then_n (wp_seq (wp_block (wp_seq ?_))))
  refine region_q hS (qf (o_indexAddr_sl (sz:=2) (.mk Tryz.underlying28 (by kernel_rfl)) (by intro x;rfl) .t .t (by omega) (by omega)) r2 qz (qf (oR true 2 .t) r1 qz (qf (oH [.int .i64 0,.slice none 0 0] 102) trivial qz (qf (oA 2 102 .same .t) r2 r1 qZ)))) hB ?_
  clear hS;intro a w F hS
  replace hS:=hS.sub
  obtain ⟨F,hS⟩:=hS.nm [14,13,12,11,10,9,8,6,5,4,3] [102,101,50,0] rfl rfl
  try dsimp only [RS.sub,SF.sub,CF.sub,csub,Anc.sub,List.map,stCells,xL,xM,Nat.reduceAdd,xD,xE,xT,xU,xC,xN,zCF,ldSF,rHist,rTx,rOrd,rVer,rInt,rOp] at hS
  generalize Act.tau a 8=v8 at hS
  try simp only [Int.toNat_natCast] at hS
  refine then_n (wp_seq (wp_seq ?_))
  refine region_z hS (qM rfl rfl (qf (o_not .t) r1 qz (qM rfl rfl (qk rfl (fun h=>oF 0 102 .is) r2 r1 (qk rfl (fun h=>oL false 1 102 (.w h .adr)) r2 r1 (qk rfl (fun h=>oF 0 101 .is) r2 r1 (qk rfl (fun h=>oL false 1 101 (.w h .adr)) r2 r1 (qk rfl (fun h=>o_geq (.w h) (.w h)) r3 qz (qf (o_and2 .t .t) r2 qz qZ))))))))) hB [23,22,21,20,19,18,17,16,15,14,13,12,11,10,9,8,6,5,4,3] [102,101,50,0] rfl rfl ?_
  clear hS;intro a w F hS
  refine then_n ?_
  refine cond_b hS rfl (fun hc1=>?_) (fun hc1=>?_)
  ·skip
   have hA:d=false∧OrdD.key t≤OrdD.key (Go.Gm.nth l i):=by simpa using hc1
   refine wp_seq ?_
   refine region_q hS (qM rfl rfl (qf (oL true 2 101 .is) r1 r1 (qf (o_buildSliceE (sz:=2) (zs:=[.int .i64 0,.slice none 0 0]) (r:=[(0,.tmp 25)]) (l:=[_,_]) Tryz.underlying28 (by kernel_rfl) (by kernel_rfl) (by kernel_rfl) (by kernel_rfl) rfl rfl (.agg rfl .t (by kernel_rfl) (by kernel_rfl) .nil) rfl) r1 qz (qf (o_append (sz:=2) (bs:=32) 50 (.mk' Tryz.underlying28 (by kernel_rfl) (by kernel_rfl)) (by intro x;rfl) .is (.arr (l':=[t]) .t) (by simp only [List.length_append,List.length_cons,List.length_nil];omega) (by decide)) ⟨rfl,rfl,trivial⟩ ⟨rfl,trivial⟩ (qN rfl rfl qZ))))) hB ?_
   clear hS;intro a w F hS
   replace hS:=hS.sub
   obtain ⟨F,hS⟩:=hS.nm [27,26,25,24,23,22,21,20,19,18,17,16,15,14,13,12,11,10,9,8,6,5,4,3] [102,101,50,0] rfl rfl
   try dsimp only [RS.sub,SF.sub,CF.sub,csub,Anc.sub,List.map,stCells,xL,xM,Nat.reduceAdd,xD,xE,xT,xU,xC,xN,zCF,ldSF,rHist,rTx,rOrd,rVer,rInt,rOp] at hS
   generalize Act.tau a 27=v27 at hS
   refine then_n ?_
   refine region_z hS (qf (oN .cb) trivial qz qZ) hB [27,26,25,24,23,22,21,20,19,18,17,16,15,14,13,12,11,10,9,8,6,5,4,3] [102,101,50,0] rfl rfl ?_
   clear hS;intro a w F hS
   refine then_n (wp_seq ?_)
   refine region_z hS (qf (oF 0 102 .is) r1 r1 (qf (oL false 1 102 .adr) r1 r1 (qf (oF 0 101 .is) r1 r1 (qf (oL false 1 101 .adr) r1 r1 (qf (o_neq .t .t) r2 qz qZ))))) hB [32,31,30,29,28,27,26,25,24,23,22,21,20,19,18,17,16,15,14,13,12,11,10,9,8,6,5,4,3] [102,101,50,0] rfl rfl ?_
   clear hS;intro a w F hS
   refine then_n ?_
   refine cond_b hS rfl (fun hc2=>?_) (fun hc2=>?_)
   ·skip
    have hBq:¬ OrdD.key (Go.Gm.nth l i)=OrdD.key t:=by simpa using hc2
    refine region_q hS (qM rfl rfl (qf (oL true 2 102 .is) r1 r1 (qf (o_buildSliceE (sz:=2) (zs:=[.int .i64 0,.slice none 0 0]) (r:=[(0,.tmp 34)]) (l:=[_,_]) Tryz.underlying28 (by kernel_rfl) (by kernel_rfl) (by kernel_rfl) (by kernel_rfl) rfl rfl (.agg rfl .t (by kernel_rfl) (by kernel_rfl) .nil) rfl) r1 qz (qf (o_append (sz:=2) (bs:=32) 50 (.mk' Tryz.underlying28 (by kernel_rfl) (by kernel_rfl)) (by intro x;rfl) .is (.arr (l':=[(Go.Gm.nth l i)]) .t) (by simp only [List.length_append,List.length_cons,List.length_nil];omega) (by decide)) ⟨rfl,rfl,trivial⟩ ⟨rfl,trivial⟩ (qN rfl rfl qZ))))) hB ?_
    clear hS;intro a w F hS
    replace hS:=hS.sub
    obtain ⟨F,hS⟩:=hS.nm [36,35,34,33,32,31,30,29,28,27,26,25,24,23,22,21,20,19,18,17,16,15,14,13,12,11,10,9,8,6,5,4,3] [102,101,50,0] rfl rfl
    try dsimp only [RS.sub,SF.sub,CF.sub,csub,Anc.sub,List.map,stCells,xL,xM,Nat.reduceAdd,xD,xE,xT,xU,xC,xN,zCF,ldSF,rHist,rTx,rOrd,rVer,rInt,rOp] at hS
    generalize Act.tau a 36=v36 at hS
    refine block_n (then_n ?_)
    refine region_z hS (qf (o_add .t qi) r1 qz (qM rfl rfl qZ)) hB [37,36,35,34,33,32,31,30,29,28,27,26,25,24,23,22,21,20,19,18,17,16,15,14,13,12,11,10,9,8,6,5,4,3] [102,101,50,0] rfl rfl ?_
    clear hS;intro a w F hS
    refine then_n ?_
    replace hS:=hS.ent (i:=11) (s':=.pv (.int .i64 ((i+1:Nat):Int))) rfl (.int (wrap_succ (by omega)))
    obtain ⟨F,hS⟩:=hS.nm [10,9,4,3,5,6,11] [101,0,50] rfl rfl
    exact ⟨((i+1),_,_,_),F,⟨by omega,(by rw [drop_nth hil] at hq;first | exact putGR_TT hA hBq hq | exact putGR_TF hA hBq hq | exact putGR_FT hA hBq hq | exact putGR_FF hA hBq hq)⟩,hS,by omega⟩
   have hBq:OrdD.key (Go.Gm.nth l i)=OrdD.key t:=by simpa using hc2
   refine wp_skip (block_n (then_n ?_))
   refine region_z hS (qf (o_add .t qi) r1 qz (qM rfl rfl qZ)) hB [37,32,31,30,29,28,27,26,25,24,23,22,21,20,19,18,17,16,15,14,13,12,11,10,9,8,6,5,4,3] [102,101,50,0] rfl rfl ?_
   clear hS;intro a w F hS
   refine then_n ?_
   replace hS:=hS.ent (i:=11) (s':=.pv (.int .i64 ((i+1:Nat):Int))) rfl (.int (wrap_succ (by omega)))
   obtain ⟨F,hS⟩:=hS.nm [10,9,4,3,5,6,11] [101,0,50] rfl rfl
   exact ⟨((i+1),_,_,_),F,⟨by omega,(by rw [drop_nth hil] at hq;first | exact putGR_TT hA hBq hq | exact putGR_TF hA hBq hq | exact putGR_FT hA hBq hq | exact putGR_FF hA hBq hq)⟩,hS,by omega⟩
  have hA:¬ (d=false∧OrdD.key t≤OrdD.key (Go.Gm.nth l i)):=by rintro ⟨h1,h2⟩;subst h1;have h9:=hc1;simp at h9;omega
  refine wp_skip (then_n (wp_seq ?_))
  refine region_z hS (qf (oF 0 102 .is) r1 r1 (qf (oL false 1 102 .adr) r1 r1 (qf (oF 0 101 .is) r1 r1 (qf (oL false 1 101 .adr) r1 r1 (qf (o_neq .t .t) r2 qz qZ))))) hB [32,31,30,29,28,23,22,21,20,19,18,17,16,15,14,13,12,11,10,9,8,6,5,4,3] [102,101,50,0] rfl rfl ?_
  clear hS;intro a w F hS
  refine then_n ?_
  refine cond_b hS rfl (fun hc3=>?_) (fun hc3=>?_)
  ·skip
   have hBq:¬ OrdD.key (Go.Gm.nth l i)=OrdD.key t:=by simpa using hc3
   refine region_q hS (qM rfl rfl (qf (oL true 2 102 .is) r1 r1 (qf (o_buildSliceE (sz:=2) (zs:=[.int .i64 0,.slice none 0 0]) (r:=[(0,.tmp 34)]) (l:=[_,_]) Tryz.underlying28 (by kernel_rfl) (by kernel_rfl) (by kernel_rfl) (by kernel_rfl) rfl rfl (.agg rfl .t (by kernel_rfl) (by kernel_rfl) .nil) rfl) r1 qz (qf (o_append (sz:=2) (bs:=32) 50 (.mk' Tryz.underlying28 (by kernel_rfl) (by kernel_rfl)) (by intro x;rfl) .is (.arr (l':=[(Go.Gm.nth l i)]) .t) (by simp only [List.length_append,List.length_cons,List.length_nil];omega) (by decide)) ⟨rfl,rfl,trivial⟩ ⟨rfl,trivial⟩ (qN rfl rfl qZ))))) hB ?_
   clear hS;intro a w F hS
   replace hS:=hS.sub
   obtain ⟨F,hS⟩:=hS.nm [36,35,34,33,32,31,30,29,28,23,22,21,20,19,18,17,16,15,14,13,12,11,10,9,8,6,5,4,3] [102,101,50,0] rfl rfl
   try dsimp only [RS.sub,SF.sub,CF.sub,csub,Anc.sub,List.map,stCells,xL,xM,Nat.reduceAdd,xD,xE,xT,xU,xC,xN,zCF,ldSF,rHist,rTx,rOrd,rVer,rInt,rOp] at hS
   generalize Act.tau a 36=v36 at hS
   refine block_n (then_n ?_)
   refine region_z hS (qf (o_add .t qi) r1 qz (qM rfl rfl qZ)) hB [37,36,35,34,33,32,31,30,29,28,23,22,21,20,19,18,17,16,15,14,13,12,11,10,9,8,6,5,4,3] [102,101,50,0] rfl rfl ?_
   clear hS;intro a w F hS
   refine then_n ?_
   replace hS:=hS.ent (i:=11) (s':=.pv (.int .i64 ((i+1:Nat):Int))) rfl (.int (wrap_succ (by omega)))
   obtain ⟨F,hS⟩:=hS.nm [10,9,4,3,5,6,11] [101,0,50] rfl rfl
   exact ⟨((i+1),_,_,_),F,⟨by omega,(by rw [drop_nth hil] at hq;first | exact putGR_TT hA hBq hq | exact putGR_TF hA hBq hq | exact putGR_FT hA hBq hq | exact putGR_FF hA hBq hq)⟩,hS,by omega⟩
  have hBq:OrdD.key (Go.Gm.nth l i)=OrdD.key t:=by simpa using hc3
  refine wp_skip (block_n (then_n ?_))
  refine region_z hS (qf (o_add .t qi) r1 qz (qM rfl rfl qZ)) hB [37,32,31,30,29,28,23,22,21,20,19,18,17,16,15,14,13,12,11,10,9,8,6,5,4,3] [102,101,50,0] rfl rfl ?_
  clear hS;intro a w F hS
  refine then_n ?_
  replace hS:=hS.ent (i:=11) (s':=.pv (.int .i64 ((i+1:Nat):Int))) rfl (.int (wrap_succ (by omega)))
  obtain ⟨F,hS⟩:=hS.nm [10,9,4,3,5,6,11] [101,0,50] rfl rfl
  exact ⟨((i+1),_,_,_),F,⟨by omega,(by rw [drop_nth hil] at hq;first | exact putGR_TT hA hBq hq | exact putGR_TF hA hBq hq | exact putGR_FT hA hBq hq | exact putGR_FF hA hBq hq)⟩,hS,by omega⟩
 have hil:i=l.length:=by simp at hc0;omega
 refine wp_exit (then_x (then_x (block_x (then_n (wp_seq (wp_seq ?_))))))
 refine region_z hS (qM rfl rfl (qf (o_not .t) r1 qz qZ)) hB [39,5,4,3] [101,50,0] rfl rfl ?_
 clear hS;intro a w F hS
 refine then_n ?_
 refine cond_b hS rfl (fun hc4=>?_) (fun hc4=>?_)
 ·skip
  have hfin:out ++ [t] = putGR OrdD.key t l false:=by rw [hil,List.drop_length] at hq;cases d with | true=>simp at hc4 | false=>exact hq
  refine region_q hS (qM rfl rfl (qf (oL true 2 101 .is) r1 r1 (qf (o_buildSliceE (sz:=2) (zs:=[.int .i64 0,.slice none 0 0]) (r:=[(0,.tmp 41)]) (l:=[_,_]) Tryz.underlying28 (by kernel_rfl) (by kernel_rfl) (by kernel_rfl) (by kernel_rfl) rfl rfl (.agg rfl .t (by kernel_rfl) (by kernel_rfl) .nil) rfl) r1 qz (qf (o_append (sz:=2) (bs:=32) 50 (.mk' Tryz.underlying28 (by kernel_rfl) (by kernel_rfl)) (by intro x;rfl) .is (.arr (l':=[t]) .t) (by simp only [List.length_append,List.length_cons,List.length_nil];omega) (by decide)) ⟨rfl,rfl,trivial⟩ ⟨rfl,trivial⟩ (qN rfl rfl qZ))))) hB ?_
  clear hS;intro a w F hS
  replace hS:=hS.sub
  obtain ⟨F,hS⟩:=hS.nm [5,4] [101,50,0] rfl rfl
  try dsimp only [RS.sub,SF.sub,CF.sub,csub,Anc.sub,List.map,stCells,xL,xM,Nat.reduceAdd,xD,xE,xT,xU,xC,xN,zCF,ldSF,rHist,rTx,rOrd,rVer,rInt,rOp] at hS
  generalize Act.tau a 43=v43 at hS
  refine then_n (wp_seq ?_)
  refine region_z hS (qM rfl rfl (qN rfl rfl qZ)) hB [4] [101,50,0] rfl rfl ?_
  clear hS;intro a w F hS
  refine then_n (wp_ret ?_)
  obtain ⟨F,hS⟩:=hS.give 50 4 rfl rfl
  refine ret_P hfr hS rfl (.tmp rfl .nil) (.one (.sl hfin))
 have hfin:out=putGR OrdD.key t l false:=by rw [hil,List.drop_length] at hq;cases d with | false=>simp at hc4 | true=>simpa [putGR] using hq
 refine wp_skip (then_n (wp_seq ?_))
 refine region_z hS (qM rfl rfl (qN rfl rfl qZ)) hB [4] [101,50,0] rfl rfl ?_
 clear hS;intro a w F hS
 refine then_n (wp_ret ?_)
 obtain ⟨F,hS⟩:=hS.give 50 4 rfl rfl
 refine ret_P hfr hS rfl (.tmp rfl .nil) (.one (.sl hfin))
end Go.Proofs.YtcfgcpcakdknkaaGreat
namespace Go.Proofs.YtcfgcpcakdknkaaGreat
open Go Go.Gm
set_option linter.unusedVariables false
set_option linter.unusedSimpArgs false
set_option maxHeartbeats 4000000
set_option maxRecDepth 8000
theorem fits14_c (g:HistD) (d:DeltaD) (hs:Small g) (hd:SmallD d):FnP Tryz.prog 65 [.agg (rHist g),.agg (rDelta d)] (.bool (fitsD g d)):=by
 refine FnP.mk Tryz.func65 rfl Tryz.ntmps65 rfl ?_
 intro B a w F hB hfr hS
 refine wp_seq ?_
 refine region_q hS (qf (oX 101 (.conv .t .agg)) r1 qz (qf (oX 102 (.conv .t .agg)) r1 qz (qf (oN .cb) trivial qz qZ))) hB ?_
 clear hS;intro a w F hS
 replace hS:=hS.sub
 obtain ⟨F,hS⟩:=hS.nm [4,3,2] [102,101,0] rfl rfl
 try dsimp only [RS.sub,SF.sub,CF.sub,csub,Anc.sub,List.map,zCF,rHist,rTx,rOrd,rVer,rInt,rOp,rDelta] at hS
 generalize Act.tau a 2=v2 at hS
 generalize Act.tau a 3=v3 at hS
 refine then_n (wp_seq (wp_seq ?_))
 refine region_z hS (qf (oF 0 102 .is) r1 r1 (qf (oL false 1 102 .adr) r1 r1 (qf (oF 0 101 .is) r1 r1 (qf (oL false 1 101 .adr) r1 r1 (qf (oP (lessT14_c d.was g.txs (by have:=hd.1.1.1;dsimp only at this;omega) hs.1) Tryz.func45 (Args.two .t .t)) r2 qz (qf (o_len_sl Tryz.underlying27 .t) r1 qz (qf (o_gtr .t qi) r1 qz (qM rfl rfl (qk rfl (fun h=>oF 2 102 .is) r2 r1 (qk rfl (fun h=>oL false 1 102 (.w h .adr)) r2 r1 (qk rfl (fun h=>oF 1 101 .is) r2 r1 (qk rfl (fun h=>oL false 1 101 (.w h .adr)) r2 r1 (qk rfl (fun h=>oP (lessR14_c d.old g.orders (by have:=hd.1.2.1;dsimp only at this;omega)) Tryz.func46 (Args.two (.w h) (.w h))) r3 qz (qk rfl (fun h=>o_len_sl Tryz.underlying28 (.w h)) r2 qz (qk rfl (fun h=>o_gtr (.w h) qi) r2 qz (qf (o_or2 .t .t) r2 qz qZ)))))))))))))))) hB [32,4,3,2] [102,101,0] rfl rfl ?_
 clear hS;intro a w F hS
 refine then_n ?_
 refine cond_b hS rfl (fun hc0=>?_) (fun hc0=>?_)
 ·skip
  have hg:false=fitsD g d:=by
    have h9:=hc0
    unfold fitsD fitsK
    by_cases e1:lessK TxD.id d.was g.txs = []
    · by_cases e2:lessK OrdD.key d.old g.orders = []
      · rw [e1,e2] at h9;simp at h9
      · rw [decide_eq_false e2,Bool.false_and,Bool.and_false]
    · rw [decide_eq_false e1,Bool.false_and,Bool.false_and]
  refine wp_seq ?_
  refine region_z hS (qf (oN .cb) trivial qz qZ) hB [4,3,2] [102,101,0] rfl rfl ?_
  clear hS;intro a w F hS
  refine then_n (wp_ret (then_r ?_))
  refine ret_P hfr hS rfl (.tmp rfl .nil) (.one (.bool hg))
 have hl0:lessK TxD.id d.was g.txs = []∧lessK OrdD.key d.old g.orders = []:=by
   have h9:=hc0
   refine ⟨Decidable.byContradiction fun e=>?_,Decidable.byContradiction fun e=>?_⟩ <;> have h7:=List.length_pos_iff.2 e <;> simp at h9 <;> simp [h9] at h7
 have hn1:d.now.length≤1000:=hd.2.1.1
 have hn2:d.new.length≤1000:=hd.2.2.1
 refine wp_skip (then_n (wp_seq (wp_seq ?_)))
 refine region_z hS (qf (oF 1 102 .is) r1 r1 (qf (oL false 1 102 .adr) r1 r1 (qf (o_len_sl Tryz.underlying27 .t) r1 qz (qf (oM qi) trivial qz qZ)))) hB [36,35,34,4,3,2] [102,101,0] rfl rfl ?_
 clear hS;intro a w F hS
 refine then_n (wp_block ?_)
 refine loop_keep (σ:=(Nat)) [2,3,4,34,35] [0,101,102] (fun s=>[(36,.pv (.int .i64 (s:Int)))]) (fun s=>[]) (fun s=>s≤d.now.length∧(∀ q,q<s→((seekK TxD.id g.txs (TxD.id (Go.Gm.nth d.now q))).isSome && !(seekK TxD.id d.was (TxD.id (Go.Gm.nth d.now q))).isSome)=false)) (fun s=>d.now.length - s) (0) hS ⟨rfl,rfl,rfl,rfl,rfl,rfl,trivial⟩ ⟨rfl,rfl,rfl,trivial⟩ ⟨Nat.zero_le _,fun q hq=>absurd hq (Nat.not_lt_zero q)⟩ ?_
 clear hS;intro i a w F hC hS
 try dsimp only at hC
 obtain ⟨F,hS⟩:=hS.nm [36,35,34,4,3,2] [102,101,0] rfl rfl
 try dsimp only at hS
 obtain ⟨hi,hq⟩:=hC
 refine wp_seq ?_
 refine region_z hS (qf (o_lss .t .t) r2 qz qZ) hB [37,36,35,34,4,3,2] [102,101,0] rfl rfl ?_
 clear hS;intro a w F hS
 refine then_n (wp_seq ?_)
 refine cond_b hS rfl (fun hc1=>?_) (fun hc1=>?_)
 ·skip
  have hil:i<d.now.length:=by simp at hc1;omega
  refine wp_skip (then_n (wp_seq (wp_block (wp_seq ?_))))
  refine region_q hS (qf (o_indexAddr_sl (sz:=3) (.mk Tryz.underlying27 (by kernel_rfl)) (by intro x;rfl) .t .t (by omega) (by omega)) r2 qz (qf (oR true 3 .t) r1 qz (qf (oH [.int .i64 0,.bool false,.slice none 0 0] 103) trivial qz (qf (oA 3 103 .same .t) r2 r1 qZ)))) hB ?_
  clear hS;intro a w F hS
  replace hS:=hS.sub
  obtain ⟨F,hS⟩:=hS.nm [39,38,37,36,35,34,6,4,3,2] [103,102,101,0] rfl rfl
  try dsimp only [RS.sub,SF.sub,CF.sub,csub,Anc.sub,List.map,stCells,xL,xM,Nat.reduceAdd,xD,xE,xT,xU,xC,xN,zCF,ldSF,rHist,rTx,rOrd,rVer,rInt,rOp,rDelta] at hS
  generalize Act.tau a 6=v6 at hS
  try simp only [Int.toNat_natCast] at hS
  refine then_n (wp_seq ?_)
  refine region_q hS (qf (oF 0 101 .is) r1 r1 (qf (oL false 1 101 .adr) r1 r1 (qf (oF 0 103 .is) r1 r1 (qf (oL false 1 103 .adr) r1 r1 (qf (oP (tx14_c g.txs (Go.Gm.nth d.now i).id hs.1) Tryz.func99 (Args.two .t .t)) r2 qz (qM rfl rfl (qf (o_extract .t rfl) r1 qz (qf (o_extract .t rfl) r1 qz (qf (oH [.int .i64 0,.bool false,.slice none 0 0] 104) trivial qz (qf (oA 3 104 .same (.conv .t .agg)) r2 r1 (qN rfl rfl qZ))))))))))) hB ?_
  clear hS;intro a w F hS
  replace hS:=hS.sub
  obtain ⟨F,hS⟩:=hS.nm [47,46,45,44,43,42,41,40,39,38,37,36,35,34,8,7,6,4,3,2] [104,103,102,101,0] rfl rfl
  try dsimp only [RS.sub,SF.sub,CF.sub,csub,Anc.sub,List.map,stCells,xL,xM,Nat.reduceAdd,xD,xE,xT,xU,xC,xN,zCF,ldSF,rHist,rTx,rOrd,rVer,rInt,rOp,rDelta] at hS
  generalize Act.tau a 7=v7 at hS
  refine then_n (wp_seq ?_)
  refine region_q hS (qf (oF 0 102 .is) r1 r1 (qf (oL false 1 102 .adr) r1 r1 (qf (oF 0 103 .is) r1 r1 (qf (oL false 1 103 .adr) r1 r1 (qf (oP (tx14_c d.was (Go.Gm.nth d.now i).id hd.1.1) Tryz.func99 (Args.two .t .t)) r2 qz (qM rfl rfl (qf (o_extract .t rfl) r1 qz (qf (o_extract .t rfl) r1 qz (qf (oH [.int .i64 0,.bool false,.slice none 0 0] 105) trivial qz (qf (oA 3 105 .same (.conv .t .agg)) r2 r1 (qN rfl rfl qZ))))))))))) hB ?_
  clear hS;intro a w F hS
  replace hS:=hS.sub
  obtain ⟨F,hS⟩:=hS.nm [55,54,53,52,51,50,49,48,47,46,45,44,43,42,41,40,39,38,37,36,35,34,10,9,8,7,6,4,3,2] [105,104,103,102,101,0] rfl rfl
  try dsimp only [RS.sub,SF.sub,CF.sub,csub,Anc.sub,List.map,stCells,xL,xM,Nat.reduceAdd,xD,xE,xT,xU,xC,xN,zCF,ldSF,rHist,rTx,rOrd,rVer,rInt,rOp,rDelta] at hS
  generalize Act.tau a 9=v9 at hS
  refine then_n (wp_seq ?_)
  refine region_z hS (qM rfl rfl (qM rfl rfl (qm rfl rfl rfl rfl (qk rfl (fun h=>o_not (.w h)) r2 qz (qf (o_and2 .t .t) r2 qz qZ))))) hB [60,59,58,57,56,55,54,53,52,51,50,49,48,47,46,45,44,43,42,41,40,39,38,37,36,35,34,10,9,8,7,6,4,3,2] [105,104,103,102,101,0] rfl rfl ?_
  clear hS;intro a w F hS
  refine then_n ?_
  refine cond_b hS rfl (fun hc2=>?_) (fun hc2=>?_)
  ·skip
   have h9:((seekK TxD.id g.txs (TxD.id (Go.Gm.nth d.now i))).isSome && !(seekK TxD.id d.was (TxD.id (Go.Gm.nth d.now i))).isSome)=true:=hc2
   have hbd:(d.now.all fun x=>!((seekK TxD.id g.txs (TxD.id x)).isSome && !(seekK TxD.id d.was (TxD.id x)).isSome))=false:=List.all_eq_false.2 ⟨_,nth_mem hil,by rw [h9];simp⟩
   have hg:false=fitsD g d:=by unfold fitsD fitsK;rw [hbd];simp
   refine wp_seq ?_
   refine region_z hS (qf (oN .cb) trivial qz qZ) hB [60,59,58,57,56,55,54,53,52,51,50,49,48,47,46,45,44,43,42,41,40,39,38,37,36,35,34,10,9,8,7,6,4,3,2] [105,104,103,102,101,0] rfl rfl ?_
   clear hS;intro a w F hS
   refine then_n (wp_ret (block_r (then_r (then_r (block_r (then_r ?_))))))
   refine ret_P hfr hS rfl (.tmp rfl .nil) (.one (.bool hg))
  have hne:((seekK TxD.id g.txs (TxD.id (Go.Gm.nth d.now i))).isSome && !(seekK TxD.id d.was (TxD.id (Go.Gm.nth d.now i))).isSome)=false:=hc2
  refine wp_skip (block_n (then_n ?_))
  refine region_z hS (qf (o_add .t qi) r1 qz (qM rfl rfl qZ)) hB [61,60,59,58,57,56,55,54,53,52,51,50,49,48,47,46,45,44,43,42,41,40,39,38,37,36,35,34,10,9,8,7,6,4,3,2] [105,104,103,102,101,0] rfl rfl ?_
  clear hS;intro a w F hS
  refine then_n ?_
  replace hS:=hS.ent (i:=36) (s':=.pv (.int .i64 ((i+1:Nat):Int))) rfl (.int (wrap_succ (by omega)))
  obtain ⟨F,hS⟩:=hS.nm [35,34,4,3,2,36] [102,101,0] rfl rfl
  exact ⟨(i+1),F,⟨by omega,(fun q h9=>by rcases Nat.lt_or_eq_of_le (Nat.le_of_lt_succ h9) with h8 | h8;exact hq q h8;rw [h8];exact hne)⟩,hS,by omega⟩
 have hil:i=d.now.length:=by simp at hc1;omega
 have ha1:(d.now.all fun x=>!((seekK TxD.id g.txs (TxD.id x)).isSome && !(seekK TxD.id d.was (TxD.id x)).isSome))=true:=by
   rw [List.all_eq_true]
   intro z hz
   obtain ⟨q,hq1,e⟩:=List.getElem_of_mem hz
   have h9:=hq q (by omega)
   rw [nth_eq hq1,e] at h9
   rw [h9];rfl
 refine wp_exit (then_x (then_x (block_x (then_n (wp_seq (wp_seq ?_))))))
 refine region_z hS (qf (oF 3 102 .is) r1 r1 (qf (oL false 1 102 .adr) r1 r1 (qf (o_len_sl Tryz.underlying28 .t) r1 qz (qf (oM qi) trivial qz qZ)))) hB [65,64,63,4,3,2] [102,101,0] rfl rfl ?_
 clear hS;intro a w F hS
 refine then_n (wp_block ?_)
 refine loop_keep (σ:=(Nat)) [2,3,4,63,64] [0,101,102] (fun s=>[(65,.pv (.int .i64 (s:Int)))]) (fun s=>[]) (fun s=>s≤d.new.length∧(∀ q,q<s→((seekK OrdD.key g.orders (OrdD.key (Go.Gm.nth d.new q))).isSome && !(seekK OrdD.key d.old (OrdD.key (Go.Gm.nth d.new q))).isSome)=false)) (fun s=>d.new.length - s) (0) hS ⟨rfl,rfl,rfl,rfl,rfl,rfl,trivial⟩ ⟨rfl,rfl,rfl,trivial⟩ ⟨Nat.zero_le _,fun q hq=>absurd hq (Nat.not_lt_zero q)⟩ ?_
 clear hS;intro i a w F hC hS
 try dsimp only at hC
 obtain ⟨F,hS⟩:=hS.nm [65,64,63,4,3,2] [102,101,0] rfl rfl
 try dsimp only at hS
 obtain ⟨hi,hq⟩:=hC
 refine wp_seq ?_
 refine region_z hS (qf (o_lss .t .t) r2 qz qZ) hB [66,65,64,63,4,3,2] [102,101,0] rfl rfl ?_
 clear hS;intro a w F hS
 refine then_n (wp_seq ?_)
 refine cond_b hS rfl (fun hc3=>?_) (fun hc3=>?_)
 ·skip
  have hil:i<d.new.length:=by simp at hc3;omega
  refine wp_skip (then_n (wp_seq (wp_block (wp_seq ?_))))
  refine region_q hS (qf (o_indexAddr_sl (sz:=2) (.mk Tryz.underlying28 (by kernel_rfl)) (by intro x;rfl) .t .t (by omega) (by omega)) r2 qz (qf (oR true 2 .t) r1 qz (qf (oH [.int .i64 0,.slice none 0 0] 106) trivial qz (qf (oA 2 106 .same .t) r2 r1 qZ)))) hB ?_
  clear hS;intro a w F hS
  replace hS:=hS.sub
  obtain ⟨F,hS⟩:=hS.nm [68,67,66,65,64,63,12,4,3,2] [106,102,101,0] rfl rfl
  try dsimp only [RS.sub,SF.sub,CF.sub,csub,Anc.sub,List.map,stCells,xL,xM,Nat.reduceAdd,xD,xE,xT,xU,xC,xN,zCF,ldSF,rHist,rTx,rOrd,rVer,rInt,rOp,rDelta] at hS
  generalize Act.tau a 12=v12 at hS
  try simp only [Int.toNat_natCast] at hS
  refine then_n (wp_seq ?_)
  refine region_q hS (qf (oF 1 101 .is) r1 r1 (qf (oL false 1 101 .adr) r1 r1 (qf (oF 0 106 .is) r1 r1 (qf (oL false 1 106 .adr) r1 r1 (qf (oP (ord14_c g.orders (Go.Gm.nth d.new i).key) Tryz.func100 (Args.two .t .t)) r2 qz (qM rfl rfl (qf (o_extract .t rfl) r1 qz (qf (o_extract .t rfl) r1 qz (qf (oH [.int .i64 0,.slice none 0 0] 107) trivial qz (qf (oA 2 107 .same (.conv .t .agg)) r2 r1 (qN rfl rfl qZ))))))))))) hB ?_
  clear hS;intro a w F hS
  replace hS:=hS.sub
  obtain ⟨F,hS⟩:=hS.nm [76,75,74,73,72,71,70,69,68,67,66,65,64,63,14,13,12,4,3,2] [107,106,102,101,0] rfl rfl
  try dsimp only [RS.sub,SF.sub,CF.sub,csub,Anc.sub,List.map,stCells,xL,xM,Nat.reduceAdd,xD,xE,xT,xU,xC,xN,zCF,ldSF,rHist,rTx,rOrd,rVer,rInt,rOp,rDelta] at hS
  generalize Act.tau a 13=v13 at hS
  refine then_n (wp_seq ?_)
  refine region_q hS (qf (oF 2 102 .is) r1 r1 (qf (oL false 1 102 .adr) r1 r1 (qf (oF 0 106 .is) r1 r1 (qf (oL false 1 106 .adr) r1 r1 (qf (oP (ord14_c d.old (Go.Gm.nth d.new i).key) Tryz.func100 (Args.two .t .t)) r2 qz (qM rfl rfl (qf (o_extract .t rfl) r1 qz (qf (o_extract .t rfl) r1 qz (qf (oH [.int .i64 0,.slice none 0 0] 108) trivial qz (qf (oA 2 108 .same (.conv .t .agg)) r2 r1 (qN rfl rfl qZ))))))))))) hB ?_
  clear hS;intro a w F hS
  replace hS:=hS.sub
  obtain ⟨F,hS⟩:=hS.nm [84,83,82,81,80,79,78,77,76,75,74,73,72,71,70,69,68,67,66,65,64,63,16,15,14,13,12,4,3,2] [108,107,106,102,101,0] rfl rfl
  try dsimp only [RS.sub,SF.sub,CF.sub,csub,Anc.sub,List.map,stCells,xL,xM,Nat.reduceAdd,xD,xE,xT,xU,xC,xN,zCF,ldSF,rHist,rTx,rOrd,rVer,rInt,rOp,rDelta] at hS
  generalize Act.tau a 15=v15 at hS
  refine then_n (wp_seq ?_)
  refine region_z hS (qM rfl rfl (qM rfl rfl (qm rfl rfl rfl rfl (qk rfl (fun h=>o_not (.w h)) r2 qz (qf (o_and2 .t .t) r2 qz qZ))))) hB [89,88,87,86,85,84,83,82,81,80,79,78,77,76,75,74,73,72,71,70,69,68,67,66,65,64,63,16,15,14,13,12,4,3,2] [108,107,106,102,101,0] rfl rfl ?_
  clear hS;intro a w F hS
  refine then_n ?_
  refine cond_b hS rfl (fun hc4=>?_) (fun hc4=>?_)
  ·skip
   have h9:((seekK OrdD.key g.orders (OrdD.key (Go.Gm.nth d.new i))).isSome && !(seekK OrdD.key d.old (OrdD.key (Go.Gm.nth d.new i))).isSome)=true:=hc4
   have hbd:(d.new.all fun x=>!((seekK OrdD.key g.orders (OrdD.key x)).isSome && !(seekK OrdD.key d.old (OrdD.key x)).isSome))=false:=List.all_eq_false.2 ⟨_,nth_mem hil,by rw [h9];simp⟩
   have hg:false=fitsD g d:=by unfold fitsD fitsK;rw [hbd];simp
   refine wp_seq ?_
   refine region_z hS (qf (oN .cb) trivial qz qZ) hB [89,88,87,86,85,84,83,82,81,80,79,78,77,76,75,74,73,72,71,70,69,68,67,66,65,64,63,16,15,14,13,12,4,3,2] [108,107,106,102,101,0] rfl rfl ?_
   clear hS;intro a w F hS
   refine then_n (wp_ret (block_r (then_r (then_r (block_r (then_r ?_))))))
   refine ret_P hfr hS rfl (.tmp rfl .nil) (.one (.bool hg))
  have hne:((seekK OrdD.key g.orders (OrdD.key (Go.Gm.nth d.new i))).isSome && !(seekK OrdD.key d.old (OrdD.key (Go.Gm.nth d.new i))).isSome)=false:=hc4
  refine wp_skip (block_n (then_n ?_))
  refine region_z hS (qf (o_add .t qi) r1 qz (qM rfl rfl qZ)) hB [90,89,88,87,86,85,84,83,82,81,80,79,78,77,76,75,74,73,72,71,70,69,68,67,66,65,64,63,16,15,14,13,12,4,3,2] [108,107,106,102,101,0] rfl rfl ?_
  clear hS;intro a w F hS
  refine then_n ?_
  replace hS:=hS.ent (i:=65) (s':=.pv (.int .i64 ((i+1:Nat):Int))) rfl (.int (wrap_succ (by omega)))
  obtain ⟨F,hS⟩:=hS.nm [64,63,4,3,2,65] [102,101,0] rfl rfl
  exact ⟨(i+1),F,⟨by omega,(fun q h9=>by rcases Nat.lt_or_eq_of_le (Nat.le_of_lt_succ h9) with h8 | h8;exact hq q h8;rw [h8];exact hne)⟩,hS,by omega⟩
 have hil:i=d.new.length:=by simp at hc3;omega
 have ha2:(d.new.all fun x=>!((seekK OrdD.key g.orders (OrdD.key x)).isSome && !(seekK OrdD.key d.old (OrdD.key x)).isSome))=true:=by
   rw [List.all_eq_true]
   intro z hz
   obtain ⟨q,hq1,e⟩:=List.getElem_of_mem hz
   have h9:=hq q (by omega)
   rw [nth_eq hq1,e] at h9
   rw [h9];rfl
 have hg:true=fitsD g d:=by unfold fitsD fitsK;rw [decide_eq_true hl0.1,decide_eq_true hl0.2,ha1,ha2];rfl
 refine wp_exit (then_x (then_x (block_x (then_n (wp_seq ?_)))))
 refine region_z hS (qf (oN .cb) trivial qz qZ) hB [4] [102,101,0] rfl rfl ?_
 clear hS;intro a w F hS
 refine then_n (wp_ret ?_)
 refine ret_P hfr hS rfl (.tmp rfl .nil) (.one (.bool hg))
end Go.Proofs.YtcfgcpcakdknkaaGreat
namespace Go.Proofs.YtcfgcpcakdknkaaGreat
open Go Go.Gm
set_option linter.unusedVariables false
set_option linter.unusedSimpArgs false
set_option maxHeartbeats 4000000
set_option maxRecDepth 8000
theorem apply14_c (g:HistD) (d:DeltaD) (hsd:SmallHD g d):FnP Tryz.prog 24 [.agg (rHist g),.agg (rDelta d)] (.tup [.agg (rHist (applyD g d).1),.int .i64 (applyD g d).2]):=by
 refine FnP.mk Tryz.func24 rfl Tryz.ntmps24 rfl ?_
 intro B a w F hB hfr hS
 have hn1:d.was.length≤1000:=hsd.2.1.1.1.1
 have hn2:d.now.length≤1000:=hsd.2.1.2.1.1
 have hn3:d.old.length≤1000:=hsd.2.1.1.2.1
 have hn4:d.new.length≤1000:=hsd.2.1.2.2.1
 have hg1:g.txs.length≤1000:=hsd.1.1.1
 have hg2:g.orders.length≤1000:=hsd.1.2.1
 refine wp_seq ?_
 refine region_q hS (qf (oX 101 (.conv .t .agg)) r1 qz (qf (oX 102 (.conv .t .agg)) r1 qz (qf (oH [.slice none 0 0,.slice none 0 0] 103) trivial qz (qf (oN qi) trivial qz qZ)))) hB ?_
 clear hS;intro a w F hS
 replace hS:=hS.sub
 obtain ⟨F,hS⟩:=hS.nm [5,4,3,2] [103,102,101,0] rfl rfl
 try dsimp only [RS.sub,SF.sub,CF.sub,csub,Anc.sub,List.map,zCF,rHist,rTx,rOrd,rVer,rInt,rOp,rDelta] at hS
 generalize Act.tau a 2=v2 at hS
 generalize Act.tau a 3=v3 at hS
 generalize Act.tau a 4=v4 at hS
 refine then_n (wp_seq (wp_seq ?_))
 refine region_z hS (qf (oL true 2 101 .is) r1 r1 (qf (oP (refRightH_c g hsd.1) Tryz.func44 (Args.one (.pagg .t))) r1 qz (qf (o_not .t) r1 qz (qM rfl rfl (qk rfl (fun h=>oL true 4 102 .is) r2 r1 (qk rfl (fun h=>oP (right14_c d) Tryz.func29 (Args.one (.pagg (.w h)))) r2 qz (qk rfl (fun h=>o_not (.w h)) r2 qz (qf (o_or2 .t .t) r2 qz qZ)))))))) hB [24,5,4,3,2] [103,102,101,0] rfl rfl ?_
 clear hS;intro a w F hS
 refine then_n ?_
 refine cond_b hS rfl (fun hc0=>?_) (fun hc0=>?_)
 ·skip
  have h9:(!decide (RightH g) || !decide (RightD d))=true:=hc0
  have hg:applyD g d=(noH,5):=by unfold applyD;rw [if_pos (by rintro ⟨e1,e2⟩;rw [decide_eq_true e1,decide_eq_true e2] at h9;cases h9)]
  refine wp_seq ?_
  refine region_z hS (qf (oB [] [.slice none 0 0,.slice none 0 0] [(0,1),(1,1)] .nil) trivial qz (qf (oA 2 103 .is .t) r2 r1 (qf (oN qi) trivial qz qZ))) hB [5,4,3,2] [103,102,101,0] rfl rfl ?_
  clear hS;intro a w F hS
  refine then_n (wp_ret (then_r ?_))
  refine ret_P hfr hS rfl (.cell (n:=103) (ag:=true) (sz:=2) rfl .is rfl (by kernel_rfl) (by kernel_rfl) (by kernel_rfl) (.tmp rfl .nil)) (.two (by rw [hg];first | exact .aggU rfl rfl | exact .aggLe rfl noH_le) (.int (by rw [hg])))
 have h9:(!decide (RightH g) || !decide (RightD d))=false:=hc0
 have hr:RightH g∧RightD d:=by simpa using h9
 refine wp_skip (then_n (wp_seq (wp_seq ?_)))
 refine region_z hS (qf (oL true 2 101 .is) r1 r1 (qf (oL true 4 102 .is) r1 r1 (qf (oP (fits14_c g d hsd.1 hsd.2.1) Tryz.func65 (Args.two (.pagg .t) (.pagg .t))) r2 qz (qf (o_not .t) r1 qz qZ)))) hB [29,5,4,3,2] [103,102,101,0] rfl rfl ?_
 clear hS;intro a w F hS
 refine then_n ?_
 refine cond_b hS rfl (fun hc1=>?_) (fun hc1=>?_)
 ·skip
  have hfd:fitsD g d=false:=not_tr hc1
  have hg:applyD g d=(noH,17):=by unfold applyD;rw [if_neg (by simp [hr]),if_pos hfd]
  refine wp_seq ?_
  refine region_z hS (qf (oB [] [.slice none 0 0,.slice none 0 0] [(0,1),(1,1)] .nil) trivial qz (qf (oA 2 103 .is .t) r2 r1 (qf (oN qi) trivial qz qZ))) hB [5,4,3,2] [103,102,101,0] rfl rfl ?_
  clear hS;intro a w F hS
  refine then_n (wp_ret (then_r ?_))
  refine ret_P hfr hS rfl (.cell (n:=103) (ag:=true) (sz:=2) rfl .is rfl (by kernel_rfl) (by kernel_rfl) (by kernel_rfl) (.tmp rfl .nil)) (.two (by rw [hg];first | exact .aggU rfl rfl | exact .aggLe rfl noH_le) (.int (by rw [hg])))
 have hft:fitsD g d=true:=not_fl hc1
 have hfd:¬ fitsD g d=false:=by rw [hft];simp
 have hf2:fitsK TxD.id g.txs d.was d.now=true∧fitsK OrdD.key g.orders d.old d.new=true:=by unfold fitsD at hft;rwa [Bool.and_eq_true] at hft
 have hdt:=docTurn_eq hr.1.rise.1 hr.2.2.1 hf2.1
 have hdo:=docTurn_eq hr.1.rise.2 hr.2.2.2.2 hf2.2
 refine wp_skip (then_n (wp_seq ?_))
 refine region_q hS (qf (oL true 2 101 .is) r1 r1 (qf (oH [.slice none 0 0,.slice none 0 0] 104) trivial qz (qf (oA 2 104 .same .t) r2 r1 qZ))) hB ?_
 clear hS;intro a w F hS
 replace hS:=hS.sub
 obtain ⟨F,hS⟩:=hS.nm [6,5,4,3] [104,103,102,101,0] rfl rfl
 try dsimp only [RS.sub,SF.sub,CF.sub,csub,Anc.sub,List.map,stCells,xL,xM,Nat.reduceAdd,xD,xE,xT,xU,xC,xN,zCF,ldSF,rHist,rTx,rOrd,rVer,rInt,rOp,rDelta] at hS
 generalize Act.tau a 6=v6 at hS
 refine then_n (wp_seq (wp_seq ?_))
 refine region_z hS (qf (oF 0 102 .is) r1 r1 (qf (oL false 1 102 .adr) r1 r1 (qf (o_len_sl Tryz.underlying27 .t) r1 qz (qf (oM qi) trivial qz qZ)))) hB [35,34,33,6,5,4,3] [104,103,102,101,0] rfl rfl ?_
 clear hS;intro a w F hS
 refine then_n (wp_block ?_)
 refine loop_keep (σ:=(Nat)) [3,4,5,6,33,34] [0,101,102,103] (fun s=>[(35,.pv (.int .i64 (s:Int)))]) (fun s=>[(104,.pt (.val v6) 30 [.pv (.sl rTx (dropsK TxD.id (d.was.take s) g.txs)),.pv (.sl rOrd g.orders)])]) (fun s=>s≤d.was.length∧(True)) (fun s=>d.was.length - s) (0) hS ⟨rfl,rfl,rfl,rfl,rfl,rfl,rfl,trivial⟩ ⟨rfl,rfl,rfl,rfl,rfl,trivial⟩ ⟨Nat.zero_le _,trivial⟩ ?_
 clear hS;intro i a w F hC hS
 try dsimp only at hC
 obtain ⟨F,hS⟩:=hS.nm [35,34,33,6,5,4,3] [104,103,102,101,0] rfl rfl
 try dsimp only at hS
 obtain ⟨hi,hq⟩:=hC
 refine wp_seq ?_
 refine region_z hS (qf (o_lss .t .t) r2 qz qZ) hB [36,35,34,33,6,5,4,3] [104,103,102,101,0] rfl rfl ?_
 clear hS;intro a w F hS
 refine then_n (wp_seq ?_)
 refine cond_b hS rfl (fun hc2=>?_) (fun hc2=>?_)
 ·skip
  have hil:i<d.was.length:=by simp at hc2;omega
  refine wp_skip (then_n (wp_seq (wp_block (wp_seq ?_))))
  refine region_q hS (qf (o_indexAddr_sl (sz:=3) (.mk Tryz.underlying27 (by kernel_rfl)) (by intro x;rfl) .t .t (by omega) (by omega)) r2 qz (qf (oR true 3 .t) r1 qz (qf (oH [.int .i64 0,.bool false,.slice none 0 0] 105) trivial qz (qf (oA 3 105 .same .t) r2 r1 qZ)))) hB ?_
  clear hS;intro a w F hS
  replace hS:=hS.sub
  obtain ⟨F,hS⟩:=hS.nm [38,37,36,35,34,33,8,6,5,4,3] [105,104,103,102,101,0] rfl rfl
  try dsimp only [RS.sub,SF.sub,CF.sub,csub,Anc.sub,List.map,stCells,xL,xM,Nat.reduceAdd,xD,xE,xT,xU,xC,xN,zCF,ldSF,rHist,rTx,rOrd,rVer,rInt,rOp,rDelta] at hS
  generalize Act.tau a 8=v8 at hS
  try simp only [Int.toNat_natCast] at hS
  refine then_n (wp_seq ?_)
  refine region_z hS (qf (oF 0 104 .is) r1 r1 (qf (oL false 1 104 .adr) r1 r1 (qf (oF 0 105 .is) r1 r1 (qf (oL false 1 105 .adr) r1 r1 (qf (oP (drop13_c (dropsK TxD.id (d.was.take i) g.txs) (Go.Gm.nth d.was i).id (by have:=dropsK_len (κ:=TxD.id) (d.was.take i) g.txs;omega)) Tryz.func66 (Args.two .t .t)) r2 qz (qM rfl rfl (qf (o_extract .t rfl) r1 qz (qf (o_extract .t rfl) r1 qz (qN rfl rfl (qN rfl rfl qZ)))))))))) hB [46,45,44,43,42,41,40,39,38,37,36,35,34,33,9,8,6,5,4,3] [105,104,103,102,101,0] rfl rfl ?_
  clear hS;intro a w F hS
  refine then_n ?_
  refine region_z hS (qM rfl rfl (qf (oF 0 104 .is) r1 r1 (qf (o_store1 104 .adr .t one_sl (by kernel_rfl) (by kernel_rfl)) r2 r1 qZ))) hB [48,47,46,45,44,43,42,41,40,39,38,37,36,35,34,33,9,8,6,5,4,3] [105,104,103,102,101,0] rfl rfl ?_
  clear hS;intro a w F hS
  refine block_n (then_n ?_)
  refine region_z hS (qf (o_add .t qi) r1 qz (qM rfl rfl qZ)) hB [49,48,47,46,45,44,43,42,41,40,39,38,37,36,35,34,33,9,8,6,5,4,3] [105,104,103,102,101,0] rfl rfl ?_
  clear hS;intro a w F hS
  refine then_n ?_
  replace hS:=hS.turn 104 rfl (r':=.pt (.val v6) 30 [.pv (.sl rTx (dropsK TxD.id (d.was.take (i+1)) g.txs)),.pv (.sl rOrd g.orders)]) (fun _ _ _ _ h=>by rw [dropsK_step hil];exact h)
  replace hS:=hS.ent (i:=35) (s':=.pv (.int .i64 ((i+1:Nat):Int))) rfl (.int (wrap_succ (by omega)))
  obtain ⟨F,hS⟩:=hS.nm [34,33,6,5,4,3,35] [103,102,101,0,104] rfl rfl
  exact ⟨(i+1),F,⟨by omega,trivial⟩,hS,by omega⟩
 have hil:i=d.was.length:=by simp at hc2;omega
 rw [hil,List.take_length] at hS
 refine wp_exit (then_x (then_x (block_x (then_n (wp_seq (wp_seq ?_))))))
 refine region_z hS (qf (oF 1 102 .is) r1 r1 (qf (oL false 1 102 .adr) r1 r1 (qf (o_len_sl Tryz.underlying27 .t) r1 qz (qf (oM qi) trivial qz qZ)))) hB [53,52,51,6,5,4,3] [104,103,102,101,0] rfl rfl ?_
 clear hS;intro a w F hS
 refine then_n (wp_block ?_)
 refine loop_keep (σ:=(Nat)) [3,4,5,6,51,52] [0,101,102,103] (fun s=>[(53,.pv (.int .i64 (s:Int)))]) (fun s=>[(104,.pt (.val v6) 30 [.pv (.sl rTx (putsK TxD.id (d.now.take s) (dropsK TxD.id d.was g.txs))),.pv (.sl rOrd g.orders)])]) (fun s=>s≤d.now.length∧(True)) (fun s=>d.now.length - s) (0) hS ⟨rfl,rfl,rfl,rfl,rfl,rfl,rfl,trivial⟩ ⟨rfl,rfl,rfl,rfl,rfl,trivial⟩ ⟨Nat.zero_le _,trivial⟩ ?_
 clear hS;intro i a w F hC hS
 try dsimp only at hC
 obtain ⟨F,hS⟩:=hS.nm [53,52,51,6,5,4,3] [104,103,102,101,0] rfl rfl
 try dsimp only at hS
 obtain ⟨hi,hq⟩:=hC
 refine wp_seq ?_
 refine region_z hS (qf (o_lss .t .t) r2 qz qZ) hB [54,53,52,51,6,5,4,3] [104,103,102,101,0] rfl rfl ?_
 clear hS;intro a w F hS
 refine then_n (wp_seq ?_)
 refine cond_b hS rfl (fun hc3=>?_) (fun hc3=>?_)
 ·skip
  have hil:i<d.now.length:=by simp at hc3;omega
  refine wp_skip (then_n (wp_seq (wp_block (wp_seq ?_))))
  refine region_q hS (qf (o_indexAddr_sl (sz:=3) (.mk Tryz.underlying27 (by kernel_rfl)) (by intro x;rfl) .t .t (by omega) (by omega)) r2 qz (qf (oR true 3 .t) r1 qz (qf (oH [.int .i64 0,.bool false,.slice none 0 0] 106) trivial qz (qf (oA 3 106 .same .t) r2 r1 qZ)))) hB ?_
  clear hS;intro a w F hS
  replace hS:=hS.sub
  obtain ⟨F,hS⟩:=hS.nm [56,55,54,53,52,51,12,6,5,4,3] [106,104,103,102,101,0] rfl rfl
  try dsimp only [RS.sub,SF.sub,CF.sub,csub,Anc.sub,List.map,stCells,xL,xM,Nat.reduceAdd,xD,xE,xT,xU,xC,xN,zCF,ldSF,rHist,rTx,rOrd,rVer,rInt,rOp,rDelta] at hS
  generalize Act.tau a 12=v12 at hS
  try simp only [Int.toNat_natCast] at hS
  refine then_n ?_
  refine region_z hS (qf (oF 0 104 .is) r1 r1 (qf (oL false 1 104 .adr) r1 r1 (qf (oL true 3 106 .is) r1 r1 (qf (oP (put13_c (putsK TxD.id (d.now.take i) (dropsK TxD.id d.was g.txs)) (Go.Gm.nth d.now i) (by have:=putsK_len (κ:=TxD.id) (d.now.take i) (dropsK TxD.id d.was g.txs);have:=dropsK_len (κ:=TxD.id) d.was g.txs;rw [List.length_take] at *;omega)) Tryz.func67 (Args.two .t (.pagg .t))) r2 qz (qf (oF 0 104 .is) r1 r1 (qf (o_store1 104 .adr .t one_sl (by kernel_rfl) (by kernel_rfl)) r2 r1 qZ)))))) hB [61,60,59,58,57,56,55,54,53,52,51,12,6,5,4,3] [106,104,103,102,101,0] rfl rfl ?_
  clear hS;intro a w F hS
  refine block_n (then_n ?_)
  refine region_z hS (qf (o_add .t qi) r1 qz (qM rfl rfl qZ)) hB [62,61,60,59,58,57,56,55,54,53,52,51,12,6,5,4,3] [106,104,103,102,101,0] rfl rfl ?_
  clear hS;intro a w F hS
  refine then_n ?_
  replace hS:=hS.turn 104 rfl (r':=.pt (.val v6) 30 [.pv (.sl rTx (putsK TxD.id (d.now.take (i+1)) (dropsK TxD.id d.was g.txs))),.pv (.sl rOrd g.orders)]) (fun _ _ _ _ h=>by rw [putsK_step hil];exact h)
  replace hS:=hS.ent (i:=53) (s':=.pv (.int .i64 ((i+1:Nat):Int))) rfl (.int (wrap_succ (by omega)))
  obtain ⟨F,hS⟩:=hS.nm [52,51,6,5,4,3,53] [103,102,101,0,104] rfl rfl
  exact ⟨(i+1),F,⟨by omega,trivial⟩,hS,by omega⟩
 have hil:i=d.now.length:=by simp at hc3;omega
 rw [hil,List.take_length] at hS
 rw [show putsK TxD.id d.now (dropsK TxD.id d.was g.txs)=docTurn TxD.id g.txs d.was d.now from rfl,hdt] at hS
 refine wp_exit (then_x (then_x (block_x (then_n (wp_seq (wp_seq ?_))))))
 refine region_z hS (qf (oF 2 102 .is) r1 r1 (qf (oL false 1 102 .adr) r1 r1 (qf (o_len_sl Tryz.underlying28 .t) r1 qz (qf (oM qi) trivial qz qZ)))) hB [66,65,64,6,5,4,3] [104,103,102,101,0] rfl rfl ?_
 clear hS;intro a w F hS
 refine then_n (wp_block ?_)
 refine loop_keep (σ:=(Nat)) [3,4,5,6,64,65] [0,101,102,103] (fun s=>[(66,.pv (.int .i64 (s:Int)))]) (fun s=>[(104,.pt (.val v6) 30 [.pv (.sl rTx (turnK TxD.id g.txs d.was d.now)),.pv (.sl rOrd (dropsK OrdD.key (d.old.take s) g.orders))])]) (fun s=>s≤d.old.length∧(True)) (fun s=>d.old.length - s) (0) hS ⟨rfl,rfl,rfl,rfl,rfl,rfl,rfl,trivial⟩ ⟨rfl,rfl,rfl,rfl,rfl,trivial⟩ ⟨Nat.zero_le _,trivial⟩ ?_
 clear hS;intro i a w F hC hS
 try dsimp only at hC
 obtain ⟨F,hS⟩:=hS.nm [66,65,64,6,5,4,3] [104,103,102,101,0] rfl rfl
 try dsimp only at hS
 obtain ⟨hi,hq⟩:=hC
 refine wp_seq ?_
 refine region_z hS (qf (o_lss .t .t) r2 qz qZ) hB [67,66,65,64,6,5,4,3] [104,103,102,101,0] rfl rfl ?_
 clear hS;intro a w F hS
 refine then_n (wp_seq ?_)
 refine cond_b hS rfl (fun hc4=>?_) (fun hc4=>?_)
 ·skip
  have hil:i<d.old.length:=by simp at hc4;omega
  refine wp_skip (then_n (wp_seq (wp_block (wp_seq ?_))))
  refine region_q hS (qf (o_indexAddr_sl (sz:=2) (.mk Tryz.underlying28 (by kernel_rfl)) (by intro x;rfl) .t .t (by omega) (by omega)) r2 qz (qf (oR true 2 .t) r1 qz (qf (oH [.int .i64 0,.slice none 0 0] 107) trivial qz (qf (oA 2 107 .same .t) r2 r1 qZ)))) hB ?_
  clear hS;intro a w F hS
  replace hS:=hS.sub
  obtain ⟨F,hS⟩:=hS.nm [69,68,67,66,65,64,14,6,5,4,3] [107,104,103,102,101,0] rfl rfl
  try dsimp only [RS.sub,SF.sub,CF.sub,csub,Anc.sub,List.map,stCells,xL,xM,Nat.reduceAdd,xD,xE,xT,xU,xC,xN,zCF,ldSF,rHist,rTx,rOrd,rVer,rInt,rOp,rDelta] at hS
  generalize Act.tau a 14=v14 at hS
  try simp only [Int.toNat_natCast] at hS
  refine then_n ?_
  refine region_z hS (qf (oF 1 104 .is) r1 r1 (qf (oL false 1 104 .adr) r1 r1 (qf (oF 0 107 .is) r1 r1 (qf (oL false 1 107 .adr) r1 r1 (qf (oP (without14_c (dropsK OrdD.key (d.old.take i) g.orders) (Go.Gm.nth d.old i).key (by have:=dropsK_len (κ:=OrdD.key) (d.old.take i) g.orders;omega)) Tryz.func68 (Args.two .t .t)) r2 qz (qf (oF 1 104 .is) r1 r1 (qf (o_store1 104 .adr .t one_sl (by kernel_rfl) (by kernel_rfl)) r2 r1 qZ))))))) hB [75,74,73,72,71,70,69,68,67,66,65,64,14,6,5,4,3] [107,104,103,102,101,0] rfl rfl ?_
  clear hS;intro a w F hS
  refine block_n (then_n ?_)
  refine region_z hS (qf (o_add .t qi) r1 qz (qM rfl rfl qZ)) hB [76,75,74,73,72,71,70,69,68,67,66,65,64,14,6,5,4,3] [107,104,103,102,101,0] rfl rfl ?_
  clear hS;intro a w F hS
  refine then_n ?_
  replace hS:=hS.turn 104 rfl (r':=.pt (.val v6) 30 [.pv (.sl rTx (turnK TxD.id g.txs d.was d.now)),.pv (.sl rOrd (dropsK OrdD.key (d.old.take (i+1)) g.orders))]) (fun _ _ _ _ h=>by rw [dropsK_step hil];exact h)
  replace hS:=hS.ent (i:=66) (s':=.pv (.int .i64 ((i+1:Nat):Int))) rfl (.int (wrap_succ (by omega)))
  obtain ⟨F,hS⟩:=hS.nm [65,64,6,5,4,3,66] [103,102,101,0,104] rfl rfl
  exact ⟨(i+1),F,⟨by omega,trivial⟩,hS,by omega⟩
 have hil:i=d.old.length:=by simp at hc4;omega
 rw [hil,List.take_length] at hS
 refine wp_exit (then_x (then_x (block_x (then_n (wp_seq (wp_seq ?_))))))
 refine region_z hS (qf (oF 3 102 .is) r1 r1 (qf (oL false 1 102 .adr) r1 r1 (qf (o_len_sl Tryz.underlying28 .t) r1 qz (qf (oM qi) trivial qz qZ)))) hB [80,79,78,6,5,4] [104,103,102,101,0] rfl rfl ?_
 clear hS;intro a w F hS
 refine then_n (wp_block ?_)
 refine loop_keep (σ:=(Nat)) [4,5,6,78,79] [0,101,102,103] (fun s=>[(80,.pv (.int .i64 (s:Int)))]) (fun s=>[(104,.pt (.val v6) 30 [.pv (.sl rTx (turnK TxD.id g.txs d.was d.now)),.pv (.sl rOrd (putsK OrdD.key (d.new.take s) (dropsK OrdD.key d.old g.orders)))])]) (fun s=>s≤d.new.length∧(True)) (fun s=>d.new.length - s) (0) hS ⟨rfl,rfl,rfl,rfl,rfl,rfl,trivial⟩ ⟨rfl,rfl,rfl,rfl,rfl,trivial⟩ ⟨Nat.zero_le _,trivial⟩ ?_
 clear hS;intro i a w F hC hS
 try dsimp only at hC
 obtain ⟨F,hS⟩:=hS.nm [80,79,78,6,5,4] [104,103,102,101,0] rfl rfl
 try dsimp only at hS
 obtain ⟨hi,hq⟩:=hC
 refine wp_seq ?_
 refine region_z hS (qf (o_lss .t .t) r2 qz qZ) hB [81,80,79,78,6,5,4] [104,103,102,101,0] rfl rfl ?_
 clear hS;intro a w F hS
 refine then_n (wp_seq ?_)
 refine cond_b hS rfl (fun hc5=>?_) (fun hc5=>?_)
 ·skip
  have hil:i<d.new.length:=by simp at hc5;omega
  refine wp_skip (then_n (wp_seq (wp_block (wp_seq ?_))))
  refine region_q hS (qf (o_indexAddr_sl (sz:=2) (.mk Tryz.underlying28 (by kernel_rfl)) (by intro x;rfl) .t .t (by omega) (by omega)) r2 qz (qf (oR true 2 .t) r1 qz (qf (oH [.int .i64 0,.slice none 0 0] 108) trivial qz (qf (oA 2 108 .same .t) r2 r1 qZ)))) hB ?_
  clear hS;intro a w F hS
  replace hS:=hS.sub
  obtain ⟨F,hS⟩:=hS.nm [83,82,81,80,79,78,16,6,5,4] [108,104,103,102,101,0] rfl rfl
  try dsimp only [RS.sub,SF.sub,CF.sub,csub,Anc.sub,List.map,stCells,xL,xM,Nat.reduceAdd,xD,xE,xT,xU,xC,xN,zCF,ldSF,rHist,rTx,rOrd,rVer,rInt,rOp,rDelta] at hS
  generalize Act.tau a 16=v16 at hS
  try simp only [Int.toNat_natCast] at hS
  refine then_n ?_
  refine region_z hS (qf (oF 1 104 .is) r1 r1 (qf (oL false 1 104 .adr) r1 r1 (qf (oL true 2 108 .is) r1 r1 (qf (oP (putOrder14_c (putsK OrdD.key (d.new.take i) (dropsK OrdD.key d.old g.orders)) (Go.Gm.nth d.new i) (by have:=putsK_len (κ:=OrdD.key) (d.new.take i) (dropsK OrdD.key d.old g.orders);have:=dropsK_len (κ:=OrdD.key) d.old g.orders;rw [List.length_take] at *;omega)) Tryz.func69 (Args.two .t (.pagg .t))) r2 qz (qf (oF 1 104 .is) r1 r1 (qf (o_store1 104 .adr .t one_sl (by kernel_rfl) (by kernel_rfl)) r2 r1 qZ)))))) hB [88,87,86,85,84,83,82,81,80,79,78,16,6,5,4] [108,104,103,102,101,0] rfl rfl ?_
  clear hS;intro a w F hS
  refine block_n (then_n ?_)
  refine region_z hS (qf (o_add .t qi) r1 qz (qM rfl rfl qZ)) hB [89,88,87,86,85,84,83,82,81,80,79,78,16,6,5,4] [108,104,103,102,101,0] rfl rfl ?_
  clear hS;intro a w F hS
  refine then_n ?_
  replace hS:=hS.turn 104 rfl (r':=.pt (.val v6) 30 [.pv (.sl rTx (turnK TxD.id g.txs d.was d.now)),.pv (.sl rOrd (putsK OrdD.key (d.new.take (i+1)) (dropsK OrdD.key d.old g.orders)))]) (fun _ _ _ _ h=>by rw [putsK_step hil];exact h)
  replace hS:=hS.ent (i:=80) (s':=.pv (.int .i64 ((i+1:Nat):Int))) rfl (.int (wrap_succ (by omega)))
  obtain ⟨F,hS⟩:=hS.nm [79,78,6,5,4,80] [103,102,101,0,104] rfl rfl
  exact ⟨(i+1),F,⟨by omega,trivial⟩,hS,by omega⟩
 have hil:i=d.new.length:=by simp at hc5;omega
 rw [hil,List.take_length] at hS
 rw [show putsK OrdD.key d.new (dropsK OrdD.key d.old g.orders)=docTurn OrdD.key g.orders d.old d.new from rfl,hdo] at hS
 refine wp_exit (then_x (then_x (block_x (then_n (wp_seq (wp_seq ?_))))))
 refine region_z hS (qf (oL true 2 104 .is) r1 r1 (qf (oP (refRightH_c (turnD g d) hsd.turn) Tryz.func44 (Args.one (.pagg .t))) r1 qz (qf (o_not .t) r1 qz qZ))) hB [92,6,5,4] [104,103,102,101,0] rfl rfl ?_
 clear hS;intro a w F hS
 refine then_n ?_
 refine cond_b hS rfl (fun hc6=>?_) (fun hc6=>?_)
 ·skip
  have hr2:¬ RightH (turnD g d):=by simpa using hc6
  have hg:applyD g d=(noH,8):=by unfold applyD;rw [if_neg (by simp [hr]),if_neg hfd,if_neg hr2]
  refine wp_seq ?_
  refine region_z hS (qf (oB [] [.slice none 0 0,.slice none 0 0] [(0,1),(1,1)] .nil) trivial qz (qf (oA 2 103 .is .t) r2 r1 (qf (oN qi) trivial qz qZ))) hB [6,5,4] [104,103,102,101,0] rfl rfl ?_
  clear hS;intro a w F hS
  refine then_n (wp_ret (then_r ?_))
  refine ret_P hfr hS rfl (.cell (n:=103) (ag:=true) (sz:=2) rfl .is rfl (by kernel_rfl) (by kernel_rfl) (by kernel_rfl) (.tmp rfl .nil)) (.two (by rw [hg];first | exact .aggU rfl rfl | exact .aggLe rfl noH_le) (.int (by rw [hg])))
 have hr2:RightH (turnD g d):=by simpa using hc6
 have hg:applyD g d=(turnD g d,0):=by unfold applyD;rw [if_neg (by simp [hr]),if_neg hfd,if_pos hr2]
 refine wp_skip (then_n (wp_seq ?_))
 refine region_z hS (qf (oL true 2 104 .is) r1 r1 (qf (oA 2 103 .is .t) r2 r1 (qf (oN qi) trivial qz qZ))) hB [5,4] [104,103,102,101,0] rfl rfl ?_
 clear hS;intro a w F hS
 refine then_n (wp_ret ?_)
 refine ret_P hfr hS rfl (.cell (n:=103) (ag:=true) (sz:=2) rfl .is rfl (by kernel_rfl) (by kernel_rfl) (by kernel_rfl) (.tmp rfl .nil)) (.two (by rw [hg];first | exact .aggU rfl rfl | exact .aggLe rfl noH_le) (.int (by rw [hg])))
end Go.Proofs.YtcfgcpcakdknkaaGreat
